/-
  The functions that the statement runs, each as a plain one.
-/
import Derived.Test.YtplgphblmeceoaaGreatDoorTypes
set_option linter.unusedVariables false
set_option maxRecDepth 100000
namespace Go.Proofs.YtplgphblmeceoaaGreatDoor
open Go Go.Proofs.YtplgphblmeceoaaGreatDoor.Eng
@[reducible] noncomputable def cxC (F : List ((Nat × List Nat) × TFn)) (n : Nat) : Cx := ⟨T, TYt, lkF F, lkO [], lkD [], lkP [], [], [], false, [], [], lkS [], n, lkW [], 0⟩
theorem cxq {F : List ((Nat × List Nat) × TFn)} {D : Nat → Option (Nat × List (Nat × Bool) × Option (Nat × List (Nat × Bool) × Nat × List (Nat × Bool)))} {DP : Nat → Option (Nat × Plan)} {FZ TR : List Nat} {wr : Bool} {n m : Nat} (h : FsOK Tryz.prog F) : CxOK Tryz.prog ⟨T, TYt, lkF F, lkO [], D, DP, FZ, [], wr, [], TR, lkS [], n, lkW [], m⟩ :=
 ⟨tabOK, h, OsOK.nil, mixed, (fun t h => by cases h), (fun t e h => by cases h), SsOK.nil, WsOK.nil⟩
def bs_ : ByteArray := ⟨#[]⟩
def Q34 : ByteArray := ⟨#[10]⟩
def Q39 : ByteArray := ⟨#[115]⟩
def Q37 : ByteArray := ⟨#[32]⟩
def Q3a : ByteArray := ⟨#[46]⟩
def Q38 : ByteArray := ⟨#[46, 46]⟩
def Q26 : ByteArray := ⟨#[46, 95, 45, 43]⟩
def Q35 : ByteArray := ⟨#[47]⟩
def Q1f : ByteArray := ⟨#[47, 47]⟩
def Q2p : ByteArray := ⟨#[47, 47, 97, 112, 112]⟩
def Q1l : ByteArray := ⟨#[47, 47, 97, 112, 112, 108, 101, 58, 120]⟩
def Qi : ByteArray := ⟨#[48, 49, 50, 51, 52, 53, 54, 55, 56, 57, 97, 98, 99, 100, 101, 102]⟩
def Q33 : ByteArray := ⟨#[58]⟩
def Q36 : ByteArray := ⟨#[97]⟩
def Q1e : ByteArray := ⟨#[97, 98, 99, 100, 101, 102, 103, 104, 105, 106, 107, 108, 109, 110, 111, 112, 113, 114, 115, 116, 117, 118, 119, 120, 121, 122, 48, 49, 50, 51, 52, 53, 54, 55, 56, 57, 95, 45]⟩
noncomputable def Qz.f (a0 : (List ByteArray)) : Option (List ByteArray) :=
 (nq (¬ a0 = ([] : List ByteArray)) (ck ((List.length ([] : List ByteArray) + List.length a0) * 16 ≤ 140737488355328) (some (([] : List ByteArray) ++ a0))) (some ([] : List ByteArray)))
noncomputable def Qz.fn : TFn := ⟨[(.slice .str)], [(.slice .str)], fun x => Qz.f x⟩
noncomputable def Qz.C : Cx := cxC [] 8
theorem Qz.hC : CxOK Tryz.prog Qz.C := cxq FsOK.nil
noncomputable def Qz.root : Code := Z6 Tryz.f13
theorem Qz.ok : FnOK Tryz.prog 13 Qz.fn := .qq Qz.root Qz.hC Tryz.func13 (lkL []) [.tmp 2] LsOK.nil fun x => by kernel_rfl
noncomputable def Qr.s0 (v0_6 : (List (ByteArray × (ByteArray × ((List ByteArray) × (Int × Int)))))) (v0_7 : Int) (x0_8 : Int) (o0_0 : (List (ByteArray × (ByteArray × ((List ByteArray) × (Int × Int)))))) : Option ((Int × (List (ByteArray × (ByteArray × ((List ByteArray) × (Int × Int)))))) ⊕ (List (ByteArray × (ByteArray × ((List ByteArray) × (Int × Int)))))) :=
 (cb (decide (x0_8 < v0_7)) (ck (0 ≤ x0_8 ∧ x0_8 < ((List.length v0_6 : Nat) : Int)) (let y4 : (ByteArray × (ByteArray × ((List ByteArray) × (Int × Int)))) := (rd (ByteArray.empty, (ByteArray.empty, (([] : (List ByteArray)), ((0 : Int), (0 : Int))))) v0_6 x0_8); (ob (Qz.f y4.2.2.1) fun r5 => (ck ((List.length o0_0 + List.length ([(y4.1, (y4.2.1, (r5, y4.2.2.2)))] : List (ByteArray × (ByteArray × ((List ByteArray) × (Int × Int)))))) * 72 ≤ 140737488355328) (ck (InR (x0_8 + (1 : Int))) (some (.inl ((x0_8 + (1 : Int)), (o0_0 ++ ([(y4.1, (y4.2.1, (r5, y4.2.2.2)))] : List (ByteArray × (ByteArray × ((List ByteArray) × (Int × Int)))))))))))))) (some (.inr o0_0)))
noncomputable def Qr.l0 (v0_6 : (List (ByteArray × (ByteArray × ((List ByteArray) × (Int × Int)))))) (v0_7 : Int) (x0_8 : Int) (o0_0 : (List (ByteArray × (ByteArray × ((List ByteArray) × (Int × Int)))))) : Option (List (ByteArray × (ByteArray × ((List ByteArray) × (Int × Int))))) :=
 Zj (fun (x : (Int × (List (ByteArray × (ByteArray × ((List ByteArray) × (Int × Int))))))) => Qr.s0 v0_6 v0_7 x.1 x.2) (x0_8, o0_0)
noncomputable def Qr.e0 : Ent where
 pre := [.nil 3 40 (.pair .str (.pair .str (.pair (.slice .str) (.pair (.int .i64) (.int .i64)))))]
 inv := [(6, .val (.slice (.pair .str (.pair .str (.pair (.slice .str) (.pair (.int .i64) (.int .i64))))))), (7, .val (.int .i64))]
 car := ⟨[(3, .own 0 5), (8, .val (.int .i64))], [.row 40 (.pair .str (.pair .str (.pair (.slice .str) (.pair (.int .i64) (.int .i64)))))]⟩
 exits := [(.exit 0, ⟨[(3, .own 0 5)], [.row 40 (.pair .str (.pair .str (.pair (.slice .str) (.pair (.int .i64) (.int .i64)))))]⟩)]
 step := fun iv x => Qr.s0 iv.1 iv.2 x.1 x.2
noncomputable def Qr.f (a0 : (List (ByteArray × (ByteArray × ((List ByteArray) × (Int × Int)))))) : Option (List (ByteArray × (ByteArray × ((List ByteArray) × (Int × Int))))) :=
 (let y1 : Int := ((List.length a0 : Nat) : Int); (ob (Qr.l0 a0 y1 (0 : Int) ([] : List (ByteArray × (ByteArray × ((List ByteArray) × (Int × Int)))))) fun r6 => (some r6)))
noncomputable def Qr.fn : TFn := ⟨[(.slice (.pair .str (.pair .str (.pair (.slice .str) (.pair (.int .i64) (.int .i64))))))], [(.slice (.pair .str (.pair .str (.pair (.slice .str) (.pair (.int .i64) (.int .i64))))))], fun x => Qr.f x⟩
noncomputable def Qr.C : Cx := cxC [((13, [0]), Qz.fn)] 22
theorem Qr.hC : CxOK Tryz.prog Qr.C := cxq (FsOK.cons Qz.ok (FsOK.nil))
noncomputable def Qr.root : Code := Z6 Tryz.f4
theorem Qr.h0 : LsOK Tryz.prog Qr.C Qr.root (lkL [([0, 1, 0, 1, 1], Qr.e0)]) :=
 LsOK.cons Qr.hC (LsOK.nil) (by kernel_rfl) (fun iv x => by kernel_rfl)
theorem Qr.ok : FnOK Tryz.prog 4 Qr.fn := .qq Qr.root Qr.hC Tryz.func4 (lkL [([0, 1, 0, 1, 1], Qr.e0)]) [.tmp 2] Qr.h0 fun x => by kernel_rfl
noncomputable def Q20.f (a0 : (ByteArray × (ByteArray × (ByteArray × (ByteArray × (Int × ((List ByteArray) × ByteArray))))))) : Option (ByteArray × (ByteArray × (ByteArray × (ByteArray × (Int × ((List ByteArray) × ByteArray)))))) :=
 (ob (Qz.f a0.2.2.2.2.2.1) fun r1 => (some (a0.1, (a0.2.1, (a0.2.2.1, (a0.2.2.2.1, (a0.2.2.2.2.1, (r1, a0.2.2.2.2.2.2))))))))
noncomputable def Q20.fn : TFn := ⟨[(.pair .str (.pair .str (.pair .str (.pair .str (.pair (.int .i64) (.pair (.slice .str) .str))))))], [(.pair .str (.pair .str (.pair .str (.pair .str (.pair (.int .i64) (.pair (.slice .str) .str))))))], fun x => Q20.f x⟩
noncomputable def Q20.C : Cx := cxC [((13, [0]), Qz.fn)] 8
theorem Q20.hC : CxOK Tryz.prog Q20.C := cxq (FsOK.cons Qz.ok (FsOK.nil))
noncomputable def Q20.root : Code := Z6 Tryz.f14
theorem Q20.ok : FnOK Tryz.prog 14 Q20.fn := .qq Q20.root Q20.hC Tryz.func14 (lkL []) [.cell 2 43] LsOK.nil fun x => by kernel_rfl
noncomputable def Q1u.s0 (v0_6 : (List (ByteArray × (ByteArray × (ByteArray × (ByteArray × (Int × ((List ByteArray) × ByteArray)))))))) (v0_7 : Int) (x0_8 : Int) (o0_0 : (List (ByteArray × (ByteArray × (ByteArray × (ByteArray × (Int × ((List ByteArray) × ByteArray)))))))) : Option ((Int × (List (ByteArray × (ByteArray × (ByteArray × (ByteArray × (Int × ((List ByteArray) × ByteArray)))))))) ⊕ (List (ByteArray × (ByteArray × (ByteArray × (ByteArray × (Int × ((List ByteArray) × ByteArray)))))))) :=
 (cb (decide (x0_8 < v0_7)) (ck (0 ≤ x0_8 ∧ x0_8 < ((List.length v0_6 : Nat) : Int)) (let y4 : (ByteArray × (ByteArray × (ByteArray × (ByteArray × (Int × ((List ByteArray) × ByteArray)))))) := (rd (ByteArray.empty, (ByteArray.empty, (ByteArray.empty, (ByteArray.empty, ((0 : Int), (([] : (List ByteArray)), ByteArray.empty)))))) v0_6 x0_8); (ob (Q20.f y4) fun r5 => (ck ((List.length o0_0 + List.length ([r5] : List (ByteArray × (ByteArray × (ByteArray × (ByteArray × (Int × ((List ByteArray) × ByteArray)))))))) * 112 ≤ 140737488355328) (ck (InR (x0_8 + (1 : Int))) (some (.inl ((x0_8 + (1 : Int)), (o0_0 ++ ([r5] : List (ByteArray × (ByteArray × (ByteArray × (ByteArray × (Int × ((List ByteArray) × ByteArray)))))))))))))))) (some (.inr o0_0)))
noncomputable def Q1u.l0 (v0_6 : (List (ByteArray × (ByteArray × (ByteArray × (ByteArray × (Int × ((List ByteArray) × ByteArray)))))))) (v0_7 : Int) (x0_8 : Int) (o0_0 : (List (ByteArray × (ByteArray × (ByteArray × (ByteArray × (Int × ((List ByteArray) × ByteArray)))))))) : Option (List (ByteArray × (ByteArray × (ByteArray × (ByteArray × (Int × ((List ByteArray) × ByteArray))))))) :=
 Zj (fun (x : (Int × (List (ByteArray × (ByteArray × (ByteArray × (ByteArray × (Int × ((List ByteArray) × ByteArray))))))))) => Q1u.s0 v0_6 v0_7 x.1 x.2) (x0_8, o0_0)
noncomputable def Q1u.e0 : Ent where
 pre := [.nil 3 43 (.pair .str (.pair .str (.pair .str (.pair .str (.pair (.int .i64) (.pair (.slice .str) .str))))))]
 inv := [(6, .val (.slice (.pair .str (.pair .str (.pair .str (.pair .str (.pair (.int .i64) (.pair (.slice .str) .str)))))))), (7, .val (.int .i64))]
 car := ⟨[(3, .own 0 7), (8, .val (.int .i64))], [.row 43 (.pair .str (.pair .str (.pair .str (.pair .str (.pair (.int .i64) (.pair (.slice .str) .str))))))]⟩
 exits := [(.exit 0, ⟨[(3, .own 0 7)], [.row 43 (.pair .str (.pair .str (.pair .str (.pair .str (.pair (.int .i64) (.pair (.slice .str) .str))))))]⟩)]
 step := fun iv x => Q1u.s0 iv.1 iv.2 x.1 x.2
noncomputable def Q1u.f (a0 : (List (ByteArray × (ByteArray × (ByteArray × (ByteArray × (Int × ((List ByteArray) × ByteArray)))))))) : Option (List (ByteArray × (ByteArray × (ByteArray × (ByteArray × (Int × ((List ByteArray) × ByteArray))))))) :=
 (let y1 : Int := ((List.length a0 : Nat) : Int); (ob (Q1u.l0 a0 y1 (0 : Int) ([] : List (ByteArray × (ByteArray × (ByteArray × (ByteArray × (Int × ((List ByteArray) × ByteArray)))))))) fun r6 => (some r6)))
noncomputable def Q1u.fn : TFn := ⟨[(.slice (.pair .str (.pair .str (.pair .str (.pair .str (.pair (.int .i64) (.pair (.slice .str) .str)))))))], [(.slice (.pair .str (.pair .str (.pair .str (.pair .str (.pair (.int .i64) (.pair (.slice .str) .str)))))))], fun x => Q1u.f x⟩
noncomputable def Q1u.C : Cx := ⟨T, TYt, lkF [((14, [0]), Q20.fn)], lkO [], lkD [], lkP [], [5], [], false, [], [], lkS [], 19, lkW [], 0⟩
theorem Q1u.hC : CxOK Tryz.prog Q1u.C := cxq (FsOK.cons Q20.ok (FsOK.nil))
noncomputable def Q1u.root : Code := Z6 Tryz.f5
theorem Q1u.h0 : LsOK Tryz.prog Q1u.C Q1u.root (lkL [([0, 1, 0, 1, 1], Q1u.e0)]) :=
 LsOK.cons Q1u.hC (LsOK.nil) (by kernel_rfl) (fun iv x => by kernel_rfl)
theorem Q1u.ok : FnOK Tryz.prog 5 Q1u.fn := .qq Q1u.root Q1u.hC Tryz.func5 (lkL [([0, 1, 0, 1, 1], Q1u.e0)]) [.tmp 2] Q1u.h0 fun x => by kernel_rfl
noncomputable def Qu.f (a0 : (List (Int × (ByteArray × Int)))) : Option (List (Int × (ByteArray × Int))) :=
 (nq (¬ a0 = ([] : List (Int × (ByteArray × Int)))) (ck ((List.length ([] : List (Int × (ByteArray × Int))) + List.length a0) * 32 ≤ 140737488355328) (some (([] : List (Int × (ByteArray × Int))) ++ a0))) (some ([] : List (Int × (ByteArray × Int)))))
noncomputable def Qu.fn : TFn := ⟨[(.slice (.pair (.int .i64) (.pair .str (.int .i64))))], [(.slice (.pair (.int .i64) (.pair .str (.int .i64))))], fun x => Qu.f x⟩
noncomputable def Qu.C : Cx := cxC [] 8
theorem Qu.hC : CxOK Tryz.prog Qu.C := cxq FsOK.nil
noncomputable def Qu.root : Code := Z6 Tryz.f6
theorem Qu.ok : FnOK Tryz.prog 6 Qu.fn := .qq Qu.root Qu.hC Tryz.func6 (lkL []) [.tmp 2] LsOK.nil fun x => by kernel_rfl
noncomputable def Q1y.f (a0 : ByteArray) : Option Bool :=
 (let y1 : Int := ((ByteArray.size a0 : Nat) : Int); (cb (decide (y1 < (1 : Int))) (some false) (let y2 : Int := ((ByteArray.size a0 : Nat) : Int); (cb (decide ((40 : Int) < y2)) (some false) (ck (0 ≤ (0 : Int) ∧ (0 : Int) < ((ByteArray.size a0 : Nat) : Int)) (cb (decide (((UInt8.toNat (bt a0 (0 : Int)) : Nat) : Int) < (97 : Int))) (some false) (ck (0 ≤ (0 : Int) ∧ (0 : Int) < ((ByteArray.size a0 : Nat) : Int)) (cb (decide ((122 : Int) < ((UInt8.toNat (bt a0 (0 : Int)) : Nat) : Int))) (some false) (ob (Q2n.f a0 Q1e) fun r3 => (some (decide (r3 = bs_))))))))))))
noncomputable def Q1y.fn : TFn := ⟨[.str], [.bool], fun x => Q1y.f x⟩
noncomputable def Q1y.C : Cx := cxC [((33, [0, 0]), Q2n.fn)] 24
theorem Q1y.hC : CxOK Tryz.prog Q1y.C := cxq (FsOK.cons Q2n.ok (FsOK.nil))
noncomputable def Q1y.root : Code := Z6 Tryz.f53
theorem Q1y.ok : FnOK Tryz.prog 53 Q1y.fn := .qq Q1y.root Q1y.hC Tryz.func53 (lkL []) [.tmp 2] LsOK.nil fun x => by kernel_rfl
noncomputable def Q2v.f (a0 : Int) : Option Bool :=
 (cb (decide (a0 < (33 : Int))) (some true) (some (decide ((126 : Int) < a0))))
noncomputable def Q2v.fn : TFn := ⟨[(.int .i32)], [.bool], fun x => Q2v.f x⟩
noncomputable def Q2v.C : Cx := cxC [] 9
theorem Q2v.hC : CxOK Tryz.prog Q2v.C := cxq FsOK.nil
noncomputable def Q2v.root : Code := Z6 Tryz.f83
theorem Q2v.ok : FnOK Tryz.prog 83 Q2v.fn := .qq Q2v.root Q2v.hC Tryz.func83 (lkL []) [.tmp 2] LsOK.nil fun x => by kernel_rfl
noncomputable def Q27.f (a0 : ByteArray) : Option Bool :=
 (ob (Q2g.f a0 ()) fun r1 => (some (!r1)))
noncomputable def Q27.fn : TFn := ⟨[.str], [.bool], fun x => Q27.f x⟩
noncomputable def Q27.C : Cx := cxC [((82, [0, 85]), Q2g.fn)] 6
theorem Q27.hC : CxOK Tryz.prog Q27.C := cxq (FsOK.cons Q2g.ok (FsOK.nil))
noncomputable def Q27.root : Code := Z6 Tryz.f57
theorem Q27.ok : FnOK Tryz.prog 57 Q27.fn := .qq Q27.root Q27.hC Tryz.func57 (lkL []) [.tmp 2] LsOK.nil fun x => by kernel_rfl
noncomputable def Q25.f (a0 : ByteArray) : Option Bool :=
 (let y1 : Int := ((ByteArray.size a0 : Nat) : Int); (cb (decide ((1 : Int) ≤ y1)) (let y2 : Int := ((ByteArray.size a0 : Nat) : Int); (cb (decide (y2 ≤ (100 : Int))) (ob (Q27.f a0) fun r3 => (some r3)) (some false))) (some false)))
noncomputable def Q25.fn : TFn := ⟨[.str], [.bool], fun x => Q25.f x⟩
noncomputable def Q25.C : Cx := cxC [((57, [0]), Q27.fn)] 15
theorem Q25.hC : CxOK Tryz.prog Q25.C := cxq (FsOK.cons Q27.ok (FsOK.nil))
noncomputable def Q25.root : Code := Z6 Tryz.f55
theorem Q25.ok : FnOK Tryz.prog 55 Q25.fn := .qq Q25.root Q25.hC Tryz.func55 (lkL []) [.tmp 2] LsOK.nil fun x => by kernel_rfl
noncomputable def Qn.f (a0 : ByteArray) (a1 : ByteArray) : Option Bool :=
 (let y1 : Int := ((ByteArray.size a0 : Nat) : Int); (let y2 : Int := ((ByteArray.size a1 : Nat) : Int); (cb (decide (y2 ≤ y1)) (let y3 : Int := ((ByteArray.size a1 : Nat) : Int); (ck (0 ≤ y3 ∧ y3 ≤ ((ByteArray.size a0 : Nat) : Int)) (let y4 : ByteArray := (ByteArray.extract a0 0 (Int.toNat y3)); (some (decide (y4 = a1)))))) (some false))))
noncomputable def Qn.fn : TFn := ⟨[.str, .str], [.bool], fun x => Qn.f x.1 x.2⟩
noncomputable def Qn.C : Cx := cxC [] 18
theorem Qn.hC : CxOK Tryz.prog Qn.C := cxq FsOK.nil
noncomputable def Qn.root : Code := Z6 Tryz.f81
theorem Qn.ok : FnOK Tryz.prog 81 Qn.fn := .qq Qn.root Qn.hC Tryz.func81 (lkL []) [.tmp 4] LsOK.nil fun x => by kernel_rfl
noncomputable def Q19.f (a0 : ByteArray) (a1 : ByteArray) : Option Bool :=
 (ob (Qn.f a0 a1) fun r1 => (some r1))
noncomputable def Q19.fn : TFn := ⟨[.str, .str], [.bool], fun x => Q19.f x.1 x.2⟩
noncomputable def Q19.C : Cx := cxC [((81, [0, 0]), Qn.fn)] 8
theorem Q19.hC : CxOK Tryz.prog Q19.C := cxq (FsOK.cons Qn.ok (FsOK.nil))
noncomputable def Q19.root : Code := Z6 Tryz.f56
theorem Q19.ok : FnOK Tryz.prog 56 Q19.fn := .qq Q19.root Q19.hC Tryz.func56 (lkL []) [.tmp 4] LsOK.nil fun x => by kernel_rfl
noncomputable def Q1n.f (a0 : Int) (a1 : Int) (a2 : Int) : Option Bool :=
 (cb (decide (a1 ≤ a0)) (some (decide (a0 ≤ a2))) (some false))
noncomputable def Q1n.fn : TFn := ⟨[(.int .i64), (.int .i64), (.int .i64)], [.bool], fun x => Q1n.f x.1 x.2.1 x.2.2⟩
noncomputable def Q1n.C : Cx := cxC [] 15
theorem Q1n.hC : CxOK Tryz.prog Q1n.C := cxq FsOK.nil
noncomputable def Q1n.root : Code := Z6 Tryz.f18
theorem Q1n.ok : FnOK Tryz.prog 18 Q1n.fn := .qq Q1n.root Q1n.hC Tryz.func18 (lkL []) [.tmp 6] LsOK.nil fun x => by kernel_rfl
noncomputable def Qh.s0 (v0_1 : (ByteArray × (ByteArray × ((List ByteArray) × (Int × Int))))) (v0_21 : (List ByteArray)) (v0_22 : Int) (x0_23 : Int) : Option (Int ⊕ (Int ⊕ Unit)) :=
 (cb (decide (x0_23 < v0_22)) (ck (0 ≤ x0_23 ∧ x0_23 < ((List.length v0_21 : Nat) : Int)) (let y10 : ByteArray := (rd ByteArray.empty v0_21 x0_23); (ob (Q19.f y10 Q1f) fun r11 => (cb (!r11) (some (.inr (.inl (3 : Int)))) (let y12 : Int := ((ByteArray.size y10 : Nat) : Int); (cb (decide ((1000 : Int) < y12)) (some (.inr (.inl (3 : Int)))) (ob (Q27.f y10) fun r13 => (cb (!r13) (some (.inr (.inl (3 : Int)))) (cb (decide ((0 : Int) < x0_23)) (ck (InR (x0_23 - (1 : Int))) (ck (0 ≤ (x0_23 - (1 : Int)) ∧ (x0_23 - (1 : Int)) < ((List.length v0_1.2.2.1 : Nat) : Int)) (let y14 : ByteArray := (rd ByteArray.empty v0_1.2.2.1 (x0_23 - (1 : Int))); (cb (Z3v y10 y14 || decide (y10 = y14)) (some (.inr (.inl (8 : Int)))) (ck (InR (x0_23 + (1 : Int))) (some (.inl (x0_23 + (1 : Int))))))))) (ck (InR (x0_23 + (1 : Int))) (some (.inl (x0_23 + (1 : Int)))))))))))))) (some (.inr (.inr ()))))
noncomputable def Qh.l0 (v0_1 : (ByteArray × (ByteArray × ((List ByteArray) × (Int × Int))))) (v0_21 : (List ByteArray)) (v0_22 : Int) (x0_23 : Int) : Option (Int ⊕ Unit) :=
 Zj (fun (x : Int) => Qh.s0 v0_1 v0_21 v0_22 x) x0_23
noncomputable def Qh.e0 : Ent where
 pre := []
 inv := [(1, .rp (.pair .str (.pair .str (.pair (.slice .str) (.pair (.int .i64) (.int .i64)))))), (21, .val (.slice .str)), (22, .val (.int .i64))]
 car := ⟨[(23, .val (.int .i64))], []⟩
 exits := [(.ret, ⟨[(2, .val (.int .i64))], []⟩), (.exit 1, ⟨[], []⟩)]
 step := fun iv x => Qh.s0 iv.1 iv.2.1 iv.2.2 x
noncomputable def Qh.f (a0 : (ByteArray × (ByteArray × ((List ByteArray) × (Int × Int))))) : Option Int :=
 (ob (Q1y.f a0.1) fun r1 => (cb (!r1) (some (5 : Int)) (ob (Q25.f a0.2.1) fun r2 => (cb (!r2) (some (3 : Int)) (let y3 : Int := ((List.length a0.2.2.1 : Nat) : Int); (cb (decide ((30 : Int) < y3)) (some (2 : Int)) (let y4 : Int := ((List.length a0.2.2.1 : Nat) : Int); (ob (Qh.l0 a0 a0.2.2.1 y4 (0 : Int)) fun r15 => (Z1g r15 (fun a16 => (some a16)) (fun b17 => (ob (Q1n.f a0.2.2.2.1 (0 : Int) (1000000000 : Int)) fun r18 => (cb (!r18) (some (1 : Int)) (ob (Q1n.f a0.2.2.2.2 (0 : Int) (1000000001 : Int)) fun r19 => (cb (!r19) (some (1 : Int)) (cb (decide (a0.2.2.2.2 ≤ a0.2.2.2.1)) (some (8 : Int)) (some (0 : Int)))))))))))))))))
noncomputable def Qh.fn : TFn := ⟨[(.pair .str (.pair .str (.pair (.slice .str) (.pair (.int .i64) (.int .i64)))))], [(.int .i64)], fun x => Qh.f x⟩
noncomputable def Qh.C : Cx := ⟨T, TYt, lkF [((18, [0, 0, 0]), Q1n.fn), ((53, [0]), Q1y.fn), ((55, [0]), Q25.fn), ((56, [0, 0]), Q19.fn), ((57, [0]), Q27.fn)], lkO [], lkD [], lkP [], [1], [], false, [], [], lkS [], 69, lkW [], 0⟩
theorem Qh.hC : CxOK Tryz.prog Qh.C := cxq (FsOK.cons Q1n.ok (FsOK.cons Q1y.ok (FsOK.cons Q25.ok (FsOK.cons Q19.ok (FsOK.cons Q27.ok (FsOK.nil))))))
noncomputable def Qh.root : Code := Z6 Tryz.f31
theorem Qh.h0 : LsOK Tryz.prog Qh.C Qh.root (lkL [([0, 1, 0, 1, 1], Qh.e0)]) :=
 LsOK.cons Qh.hC (LsOK.nil) (by kernel_rfl) (fun iv x => by kernel_rfl)
theorem Qh.ok : FnOK Tryz.prog 31 Qh.fn := .qq Qh.root Qh.hC Tryz.func31 (lkL [([0, 1, 0, 1, 1], Qh.e0)]) [.tmp 2] Qh.h0 fun x => by kernel_rfl
noncomputable def Q7.s0 (v0_0 : (List (ByteArray × (ByteArray × ((List ByteArray) × (Int × Int)))))) (v0_9 : (List (ByteArray × (ByteArray × ((List ByteArray) × (Int × Int)))))) (v0_10 : Int) (x0_11 : Int) : Option (Int ⊕ (Int ⊕ Unit)) :=
 (cb (decide (x0_11 < v0_10)) (ck (0 ≤ x0_11 ∧ x0_11 < ((List.length v0_9 : Nat) : Int)) (let y6 : (ByteArray × (ByteArray × ((List ByteArray) × (Int × Int)))) := (rd (ByteArray.empty, (ByteArray.empty, (([] : (List ByteArray)), ((0 : Int), (0 : Int))))) v0_9 x0_11); (ob (Qh.f y6) fun r7 => (cb (!decide (r7 = (0 : Int))) (some (.inr (.inl r7))) (cb (decide ((0 : Int) < x0_11)) (ck (InR (x0_11 - (1 : Int))) (ck (0 ≤ (x0_11 - (1 : Int)) ∧ (x0_11 - (1 : Int)) < ((List.length v0_0 : Nat) : Int)) (let y8 : ByteArray := (rd (ByteArray.empty, (ByteArray.empty, (([] : (List ByteArray)), ((0 : Int), (0 : Int))))) v0_0 (x0_11 - (1 : Int))).1; (cb (Z3v y6.1 y8 || decide (y6.1 = y8)) (some (.inr (.inl (8 : Int)))) (ck (InR (x0_11 + (1 : Int))) (some (.inl (x0_11 + (1 : Int))))))))) (ck (InR (x0_11 + (1 : Int))) (some (.inl (x0_11 + (1 : Int)))))))))) (some (.inr (.inr ()))))
noncomputable def Q7.l0 (v0_0 : (List (ByteArray × (ByteArray × ((List ByteArray) × (Int × Int)))))) (v0_9 : (List (ByteArray × (ByteArray × ((List ByteArray) × (Int × Int)))))) (v0_10 : Int) (x0_11 : Int) : Option (Int ⊕ Unit) :=
 Zj (fun (x : Int) => Q7.s0 v0_0 v0_9 v0_10 x) x0_11
noncomputable def Q7.e0 : Ent where
 pre := []
 inv := [(0, .val (.slice (.pair .str (.pair .str (.pair (.slice .str) (.pair (.int .i64) (.int .i64))))))), (9, .val (.slice (.pair .str (.pair .str (.pair (.slice .str) (.pair (.int .i64) (.int .i64))))))), (10, .val (.int .i64))]
 car := ⟨[(11, .val (.int .i64))], []⟩
 exits := [(.ret, ⟨[(2, .val (.int .i64))], []⟩), (.exit 0, ⟨[], []⟩)]
 step := fun iv x => Q7.s0 iv.1 iv.2.1 iv.2.2 x
noncomputable def Q7.f (a0 : (List (ByteArray × (ByteArray × ((List ByteArray) × (Int × Int)))))) : Option Int :=
 (let y1 : Int := ((List.length a0 : Nat) : Int); (cb (decide ((50 : Int) < y1)) (some (2 : Int)) (let y2 : Int := ((List.length a0 : Nat) : Int); (ob (Q7.l0 a0 a0 y2 (0 : Int)) fun r9 => (Z1g r9 (fun a10 => (some a10)) (fun b11 => (some (0 : Int))))))))
noncomputable def Q7.fn : TFn := ⟨[(.slice (.pair .str (.pair .str (.pair (.slice .str) (.pair (.int .i64) (.int .i64))))))], [(.int .i64)], fun x => Q7.f x⟩
noncomputable def Q7.C : Cx := ⟨T, TYt, lkF [((31, [0]), Qh.fn)], lkO [], lkD [(9, 11, [(0, true), (1, true), (2, true), (3, true), (4, true), (5, true), (6, true), (7, true), (8, true), (9, true), (10, true)], none)], lkP [], [4], [], false, [], [], lkS [], 35, lkW [], 0⟩
theorem Q7.hC : CxOK Tryz.prog Q7.C := cxq (FsOK.cons Qh.ok (FsOK.nil))
noncomputable def Q7.root : Code := Z6 Tryz.f15
theorem Q7.h0 : LsOK Tryz.prog Q7.C Q7.root (lkL [([0, 1, 0, 1, 1], Q7.e0)]) :=
 LsOK.cons Q7.hC (LsOK.nil) (by kernel_rfl) (fun iv x => by kernel_rfl)
theorem Q7.ok : FnOK Tryz.prog 15 Q7.fn := .qq Q7.root Q7.hC Tryz.func15 (lkL [([0, 1, 0, 1, 1], Q7.e0)]) [.tmp 2] Q7.h0 fun x => by kernel_rfl
noncomputable def Q1q.f (a0 : ByteArray) : Option Bool :=
 (let y1 : Int := ((ByteArray.size a0 : Nat) : Int); (cb (decide (y1 = (16 : Int))) (ob (Q2n.f a0 Qi) fun r2 => (some (decide (r2 = bs_)))) (some false)))
noncomputable def Q1q.fn : TFn := ⟨[.str], [.bool], fun x => Q1q.f x⟩
noncomputable def Q1q.C : Cx := cxC [((33, [0, 0]), Q2n.fn)] 11
theorem Q1q.hC : CxOK Tryz.prog Q1q.C := cxq (FsOK.cons Q2n.ok (FsOK.nil))
noncomputable def Q1q.root : Code := Z6 Tryz.f17
theorem Q1q.ok : FnOK Tryz.prog 17 Q1q.fn := .qq Q1q.root Q1q.hC Tryz.func17 (lkL []) [.tmp 2] LsOK.nil fun x => by kernel_rfl
noncomputable def Q18.f (a0 : ByteArray) : Option Int :=
 none
noncomputable def Q18.fn : TFn := ⟨[.str], [(.int .i64)], fun x => Q18.f x⟩
noncomputable def Q18.C : Cx := cxC [] 10
theorem Q18.hC : CxOK Tryz.prog Q18.C := cxq FsOK.nil
noncomputable def Q18.root : Code := Z6 Tryz.f165
theorem Q18.ok : FnOK Tryz.prog 165 Q18.fn := .qq Q18.root Q18.hC Tryz.func165 (lkL []) [.tmp 2] LsOK.nil fun x => by kernel_rfl
noncomputable def Qt.f (a0 : ByteArray) : Option (Int × Int) :=
 (let y1 : Int := ((ByteArray.size a0 : Nat) : Int); (cb (decide (y1 < (1 : Int))) (some ((65533 : Int), (0 : Int))) (ck (0 ≤ (0 : Int) ∧ (0 : Int) < ((ByteArray.size a0 : Nat) : Int)) none)))
noncomputable def Qt.fn : TFn := ⟨[.str], [(.int .i32), (.int .i64)], fun x => Qt.f x⟩
noncomputable def Qt.C : Cx := ⟨T, TYt, lkF [], lkO [], lkD [], lkP [], [9], [], false, [], [], lkS [], 117, lkW [], 0⟩
theorem Qt.hC : CxOK Tryz.prog Qt.C := cxq FsOK.nil
noncomputable def Qt.root : Code := Z6 Tryz.f110
theorem Qt.ok : FnOK Tryz.prog 110 Qt.fn := .qq Qt.root Qt.hC Tryz.func110 (lkL []) [.tmp 2, .tmp 3] LsOK.nil fun x => by kernel_rfl
noncomputable def Q13.f (a0 : ByteArray) : Option (Int × Int) :=
 (cb (!decide (a0 = bs_)) (ck (0 ≤ (0 : Int) ∧ (0 : Int) < ((ByteArray.size a0 : Nat) : Int)) (cb (decide (((UInt8.toNat (bt a0 (0 : Int)) : Nat) : Int) < (128 : Int))) (ck (0 ≤ (0 : Int) ∧ (0 : Int) < ((ByteArray.size a0 : Nat) : Int)) (let y1 : Int := (IntKind.i32.wrap ((UInt8.toNat (bt a0 (0 : Int)) : Nat) : Int)); (some (y1, (1 : Int))))) (ob (Qt.f a0) fun r2 => (some (r2.1, r2.2))))) (ob (Qt.f a0) fun r3 => (some (r3.1, r3.2))))
noncomputable def Q13.fn : TFn := ⟨[.str], [(.int .i32), (.int .i64)], fun x => Q13.f x⟩
noncomputable def Q13.C : Cx := cxC [((110, [0]), Qt.fn)] 19
theorem Q13.hC : CxOK Tryz.prog Q13.C := cxq (FsOK.cons Qt.ok (FsOK.nil))
noncomputable def Q13.root : Code := Z6 Tryz.f85
theorem Q13.ok : FnOK Tryz.prog 85 Q13.fn := .qq Q13.root Q13.hC Tryz.func85 (lkL []) [.tmp 2, .tmp 3] LsOK.nil fun x => by kernel_rfl
noncomputable def Q17.s0 (v0_1 : Int) (x0_0 : ByteArray) (x0_7 : Int) (o0_0 : (List ByteArray)) : Option ((ByteArray × (Int × (List ByteArray))) ⊕ (ByteArray × (List ByteArray))) :=
 (ck (InR (v0_1 - (1 : Int))) (cb (decide (x0_7 < (v0_1 - (1 : Int)))) (ob (Q13.f x0_0) fun r5 => (ck (0 ≤ r5.2 ∧ r5.2 ≤ ((ByteArray.size x0_0 : Nat) : Int)) (let y6 : ByteArray := (ByteArray.extract x0_0 0 (Int.toNat r5.2)); (ck (0 ≤ x0_7 ∧ x0_7 < ((List.length o0_0 : Nat) : Int)) (ck ((Int.toNat x0_7) < List.length o0_0) (ck (0 ≤ r5.2 ∧ r5.2 ≤ ((ByteArray.size x0_0 : Nat) : Int)) (let y7 : ByteArray := (ByteArray.extract x0_0 (Int.toNat r5.2) (ByteArray.size x0_0)); (ck (InR (x0_7 + (1 : Int))) (some (.inl (y7, (x0_7 + (1 : Int)), (List.set o0_0 (Int.toNat x0_7) y6)))))))))))) (some (.inr (x0_0, o0_0)))))
noncomputable def Q17.l0 (v0_1 : Int) (x0_0 : ByteArray) (x0_7 : Int) (o0_0 : (List ByteArray)) : Option (ByteArray × (List ByteArray)) :=
 Zj (fun (x : (ByteArray × (Int × (List ByteArray)))) => Q17.s0 v0_1 x.1 x.2.1 x.2.2) (x0_0, x0_7, o0_0)
noncomputable def Q17.e0 : Ent where
 pre := []
 inv := [(1, .val (.int .i64))]
 car := ⟨[(0, .val .str), (6, .own 0 1), (7, .val (.int .i64))], [.row 9 .str]⟩
 exits := [(.exit 0, ⟨[(0, .val .str), (6, .own 0 1)], [.row 9 .str]⟩)]
 step := fun iv x => Q17.s0 iv x.1 x.2.1 x.2.2
noncomputable def Q17.f (a0 : ByteArray) (a1 : Int) : Option (List ByteArray) :=
 (ob (Q18.f a0) fun r1 => (cb (decide (a1 < (0 : Int))) (ck (0 ≤ r1 ∧ r1 * (16 : Int) ≤ 140737488355328) (ob (Q17.l0 r1 a0 (0 : Int) (List.replicate (Int.toNat r1) ByteArray.empty)) fun r8 => (cb (decide ((0 : Int) < r1)) (ck (InR (r1 - (1 : Int))) (ck (0 ≤ (r1 - (1 : Int)) ∧ (r1 - (1 : Int)) < ((List.length r8.2 : Nat) : Int)) (ck ((Int.toNat (r1 - (1 : Int))) < List.length r8.2) (some (List.set r8.2 (Int.toNat (r1 - (1 : Int))) r8.1))))) (some r8.2)))) (cb (decide (r1 < a1)) (ck (0 ≤ r1 ∧ r1 * (16 : Int) ≤ 140737488355328) (ob (Q17.l0 r1 a0 (0 : Int) (List.replicate (Int.toNat r1) ByteArray.empty)) fun r9 => (cb (decide ((0 : Int) < r1)) (ck (InR (r1 - (1 : Int))) (ck (0 ≤ (r1 - (1 : Int)) ∧ (r1 - (1 : Int)) < ((List.length r9.2 : Nat) : Int)) (ck ((Int.toNat (r1 - (1 : Int))) < List.length r9.2) (some (List.set r9.2 (Int.toNat (r1 - (1 : Int))) r9.1))))) (some r9.2)))) (ck (0 ≤ a1 ∧ a1 * (16 : Int) ≤ 140737488355328) (ob (Q17.l0 a1 a0 (0 : Int) (List.replicate (Int.toNat a1) ByteArray.empty)) fun r10 => (cb (decide ((0 : Int) < a1)) (ck (InR (a1 - (1 : Int))) (ck (0 ≤ (a1 - (1 : Int)) ∧ (a1 - (1 : Int)) < ((List.length r10.2 : Nat) : Int)) (ck ((Int.toNat (a1 - (1 : Int))) < List.length r10.2) (some (List.set r10.2 (Int.toNat (a1 - (1 : Int))) r10.1))))) (some r10.2)))))))
noncomputable def Q17.fn : TFn := ⟨[.str, (.int .i64)], [(.slice .str)], fun x => Q17.f x.1 x.2⟩
noncomputable def Q17.C : Cx := cxC [((85, [0]), Q13.fn), ((165, [0]), Q18.fn)] 50
theorem Q17.hC : CxOK Tryz.prog Q17.C := cxq (FsOK.cons Q13.ok (FsOK.cons Q18.ok (FsOK.nil)))
noncomputable def Q17.root : Code := Z6 Tryz.f154
theorem Q17.h0 : LsOK Tryz.prog Q17.C Q17.root (lkL [([0, 1, 0, 1, 1, 1, 1], Q17.e0)]) :=
 LsOK.cons Q17.hC (LsOK.nil) (by kernel_rfl) (fun iv x => by kernel_rfl)
theorem Q17.ok : FnOK Tryz.prog 154 Q17.fn := .qq Q17.root Q17.hC Tryz.func154 (lkL [([0, 1, 0, 1, 1, 1, 1], Q17.e0)]) [.tmp 4] Q17.h0 fun x => by kernel_rfl
noncomputable def Q2j.f (a0 : ByteArray) (a1 : ByteArray) : Option Int :=
 (ob (Q1w.f a0 a1) fun r1 => (some r1))
noncomputable def Q2j.fn : TFn := ⟨[.str, .str], [(.int .i64)], fun x => Q2j.f x.1 x.2⟩
noncomputable def Q2j.C : Cx := cxC [((144, [0, 0]), Q1w.fn)] 8
theorem Q2j.hC : CxOK Tryz.prog Q2j.C := cxq (FsOK.cons Q1w.ok (FsOK.nil))
noncomputable def Q2j.root : Code := Z6 Tryz.f156
theorem Q2j.ok : FnOK Tryz.prog 156 Q2j.fn := .qq Q2j.root Q2j.hC Tryz.func156 (lkL []) [.tmp 4] LsOK.nil fun x => by kernel_rfl
noncomputable def Qp.s0 (v0_1 : ByteArray) (v0_2 : Int) (v0_3 : Int) (x0_0 : ByteArray) (x0_10 : Int) (o0_0 : (List ByteArray)) : Option ((ByteArray × (Int × (List ByteArray))) ⊕ (ByteArray × (Int × (List ByteArray)))) :=
 (cb (decide (x0_10 < v0_3)) (ob (Q2j.f x0_0 v0_1) fun r9 => (cb (decide (r9 < (0 : Int))) (some (.inr (x0_0, x0_10, o0_0))) (ck (InR (r9 + v0_2)) (ck (0 ≤ (r9 + v0_2) ∧ (r9 + v0_2) ≤ ((ByteArray.size x0_0 : Nat) : Int)) (let y10 : ByteArray := (ByteArray.extract x0_0 0 (Int.toNat (r9 + v0_2))); (ck (0 ≤ x0_10 ∧ x0_10 < ((List.length o0_0 : Nat) : Int)) (ck ((Int.toNat x0_10) < List.length o0_0) (let y11 : Int := ((ByteArray.size v0_1 : Nat) : Int); (ck (InR (r9 + y11)) (ck (0 ≤ (r9 + y11) ∧ (r9 + y11) ≤ ((ByteArray.size x0_0 : Nat) : Int)) (let y12 : ByteArray := (ByteArray.extract x0_0 (Int.toNat (r9 + y11)) (ByteArray.size x0_0)); (ck (InR (x0_10 + (1 : Int))) (some (.inl (y12, (x0_10 + (1 : Int)), (List.set o0_0 (Int.toNat x0_10) y10)))))))))))))))) (some (.inr (x0_0, x0_10, o0_0))))
noncomputable def Qp.l0 (v0_1 : ByteArray) (v0_2 : Int) (v0_3 : Int) (x0_0 : ByteArray) (x0_10 : Int) (o0_0 : (List ByteArray)) : Option (ByteArray × (Int × (List ByteArray))) :=
 Zj (fun (x : (ByteArray × (Int × (List ByteArray)))) => Qp.s0 v0_1 v0_2 v0_3 x.1 x.2.1 x.2.2) (x0_0, x0_10, o0_0)
noncomputable def Qp.e0 : Ent where
 pre := []
 inv := [(1, .val .str), (2, .val (.int .i64)), (3, .val (.int .i64))]
 car := ⟨[(0, .val .str), (9, .own 0 1), (10, .val (.int .i64))], [.row 9 .str]⟩
 exits := [(.exit 0, ⟨[(0, .val .str), (9, .own 0 1), (10, .val (.int .i64))], [.row 9 .str]⟩)]
 step := fun iv x => Qp.s0 iv.1 iv.2.1 iv.2.2 x.1 x.2.1 x.2.2
noncomputable def Qp.f (a0 : ByteArray) (a1 : ByteArray) (a2 : Int) (a3 : Int) : Option (List ByteArray) :=
 (cb (decide (a3 = (0 : Int))) (some ([] : List ByteArray)) (cb (decide (a1 = bs_)) (ob (Q17.f a0 a3) fun r1 => (some r1)) (cb (decide (a3 < (0 : Int))) (ob (Q31.f a0 a1) fun r2 => (ck (InR (r2 + (1 : Int))) (let y3 : Int := ((ByteArray.size a0 : Nat) : Int); (ck (InR (y3 + (1 : Int))) (let y4 : Int := (min (r2 + (1 : Int)) (y3 + (1 : Int))); (ck (0 ≤ y4 ∧ y4 * (16 : Int) ≤ 140737488355328) (ck (InR (y4 - (1 : Int))) (ob (Qp.l0 a1 a2 (y4 - (1 : Int)) a0 (0 : Int) (List.replicate (Int.toNat y4) ByteArray.empty)) fun r13 => (ck (0 ≤ r13.2.1 ∧ r13.2.1 < ((List.length r13.2.2 : Nat) : Int)) (ck ((Int.toNat r13.2.1) < List.length r13.2.2) (ck (InR (r13.2.1 + (1 : Int))) (ck (0 ≤ (r13.2.1 + (1 : Int)) ∧ (r13.2.1 + (1 : Int)) ≤ ((List.length (List.set r13.2.2 (Int.toNat r13.2.1) r13.1) : Nat) : Int)) (some (List.take (Int.toNat (r13.2.1 + (1 : Int))) (List.drop 0 (List.set r13.2.2 (Int.toNat r13.2.1) r13.1)))))))))))))))) (let y14 : Int := ((ByteArray.size a0 : Nat) : Int); (ck (InR (y14 + (1 : Int))) (let y15 : Int := (min a3 (y14 + (1 : Int))); (ck (0 ≤ y15 ∧ y15 * (16 : Int) ≤ 140737488355328) (ck (InR (y15 - (1 : Int))) (ob (Qp.l0 a1 a2 (y15 - (1 : Int)) a0 (0 : Int) (List.replicate (Int.toNat y15) ByteArray.empty)) fun r16 => (ck (0 ≤ r16.2.1 ∧ r16.2.1 < ((List.length r16.2.2 : Nat) : Int)) (ck ((Int.toNat r16.2.1) < List.length r16.2.2) (ck (InR (r16.2.1 + (1 : Int))) (ck (0 ≤ (r16.2.1 + (1 : Int)) ∧ (r16.2.1 + (1 : Int)) ≤ ((List.length (List.set r16.2.2 (Int.toNat r16.2.1) r16.1) : Nat) : Int)) (some (List.take (Int.toNat (r16.2.1 + (1 : Int))) (List.drop 0 (List.set r16.2.2 (Int.toNat r16.2.1) r16.1)))))))))))))))))
noncomputable def Qp.fn : TFn := ⟨[.str, .str, (.int .i64), (.int .i64)], [(.slice .str)], fun x => Qp.f x.1 x.2.1 x.2.2.1 x.2.2.2⟩
noncomputable def Qp.C : Cx := cxC [((154, [0, 0]), Q17.fn), ((155, [0, 0]), Q31.fn), ((156, [0, 0]), Q2j.fn)] 66
theorem Qp.hC : CxOK Tryz.prog Qp.C := cxq (FsOK.cons Q17.ok (FsOK.cons Q31.ok (FsOK.cons Q2j.ok (FsOK.nil))))
noncomputable def Qp.root : Code := Z6 Tryz.f142
theorem Qp.h0 : LsOK Tryz.prog Qp.C Qp.root (lkL [([0, 0, 1, 1, 1, 1, 1, 1, 1, 1], Qp.e0)]) :=
 LsOK.cons Qp.hC (LsOK.nil) (by kernel_rfl) (fun iv x => by kernel_rfl)
theorem Qp.ok : FnOK Tryz.prog 142 Qp.fn := .qq Qp.root Qp.hC Tryz.func142 (lkL [([0, 0, 1, 1, 1, 1, 1, 1, 1, 1], Qp.e0)]) [.tmp 8] Qp.h0 fun x => by kernel_rfl
noncomputable def Q1v.f (a0 : ByteArray) (a1 : ByteArray) : Option (List ByteArray) :=
 (ob (Qp.f a0 a1 (0 : Int) (-1 : Int)) fun r1 => (some r1))
noncomputable def Q1v.fn : TFn := ⟨[.str, .str], [(.slice .str)], fun x => Q1v.f x.1 x.2⟩
noncomputable def Q1v.C : Cx := cxC [((142, [0, 0, 0, 0]), Qp.fn)] 8
theorem Q1v.hC : CxOK Tryz.prog Q1v.C := cxq (FsOK.cons Qp.ok (FsOK.nil))
noncomputable def Q1v.root : Code := Z6 Tryz.f125
theorem Q1v.ok : FnOK Tryz.prog 125 Q1v.fn := .qq Q1v.root Q1v.hC Tryz.func125 (lkL []) [.tmp 4] LsOK.nil fun x => by kernel_rfl
noncomputable def Qo.f (a0 : ByteArray) (a1 : UInt8) : Option Int :=
 (ob (Q2b.f a0 a1) fun r1 => (some r1))
noncomputable def Qo.fn : TFn := ⟨[.str, .byte], [(.int .i64)], fun x => Qo.f x.1 x.2⟩
noncomputable def Qo.C : Cx := cxC [((146, [0, 0]), Q2b.fn)] 8
theorem Qo.hC : CxOK Tryz.prog Qo.C := cxq (FsOK.cons Q2b.ok (FsOK.nil))
noncomputable def Qo.root : Code := Z6 Tryz.f131
theorem Qo.ok : FnOK Tryz.prog 131 Qo.fn := .qq Qo.root Qo.hC Tryz.func131 (lkL []) [.tmp 4] LsOK.nil fun x => by kernel_rfl
noncomputable def Q2q.f (a0 : UInt8) : Option Bool :=
 (cb (decide ((97 : Int) ≤ ((UInt8.toNat a0 : Nat) : Int))) (cb (decide (((UInt8.toNat a0 : Nat) : Int) ≤ (122 : Int))) (some true) (cb (decide ((65 : Int) ≤ ((UInt8.toNat a0 : Nat) : Int))) (cb (decide (((UInt8.toNat a0 : Nat) : Int) ≤ (90 : Int))) (some true) (cb (decide ((48 : Int) ≤ ((UInt8.toNat a0 : Nat) : Int))) (cb (decide (((UInt8.toNat a0 : Nat) : Int) ≤ (57 : Int))) (some true) (ob (Qo.f Q26 a0) fun r1 => (some (decide ((0 : Int) ≤ r1))))) (ob (Qo.f Q26 a0) fun r2 => (some (decide ((0 : Int) ≤ r2)))))) (cb (decide ((48 : Int) ≤ ((UInt8.toNat a0 : Nat) : Int))) (cb (decide (((UInt8.toNat a0 : Nat) : Int) ≤ (57 : Int))) (some true) (ob (Qo.f Q26 a0) fun r3 => (some (decide ((0 : Int) ≤ r3))))) (ob (Qo.f Q26 a0) fun r4 => (some (decide ((0 : Int) ≤ r4))))))) (cb (decide ((65 : Int) ≤ ((UInt8.toNat a0 : Nat) : Int))) (cb (decide (((UInt8.toNat a0 : Nat) : Int) ≤ (90 : Int))) (some true) (cb (decide ((48 : Int) ≤ ((UInt8.toNat a0 : Nat) : Int))) (cb (decide (((UInt8.toNat a0 : Nat) : Int) ≤ (57 : Int))) (some true) (ob (Qo.f Q26 a0) fun r5 => (some (decide ((0 : Int) ≤ r5))))) (ob (Qo.f Q26 a0) fun r6 => (some (decide ((0 : Int) ≤ r6)))))) (cb (decide ((48 : Int) ≤ ((UInt8.toNat a0 : Nat) : Int))) (cb (decide (((UInt8.toNat a0 : Nat) : Int) ≤ (57 : Int))) (some true) (ob (Qo.f Q26 a0) fun r7 => (some (decide ((0 : Int) ≤ r7))))) (ob (Qo.f Q26 a0) fun r8 => (some (decide ((0 : Int) ≤ r8)))))))
noncomputable def Q2q.fn : TFn := ⟨[.byte], [.bool], fun x => Q2q.f x⟩
noncomputable def Q2q.C : Cx := cxC [((131, [0, 0]), Qo.fn)] 30
theorem Q2q.hC : CxOK Tryz.prog Q2q.C := cxq (FsOK.cons Qo.ok (FsOK.nil))
noncomputable def Q2q.root : Code := Z6 Tryz.f143
theorem Q2q.ok : FnOK Tryz.prog 143 Q2q.fn := .qq Q2q.root Q2q.hC Tryz.func143 (lkL []) [.tmp 2] LsOK.nil fun x => by kernel_rfl
noncomputable def Q1j.s0 (v0_0 : ByteArray) (v0_5 : Int) (x0_6 : Int) : Option (Int ⊕ (Bool ⊕ Unit)) :=
 (cb (decide (x0_6 < v0_5)) (ck (0 ≤ x0_6 ∧ x0_6 < ((ByteArray.size v0_0 : Nat) : Int)) (ob (Q2q.f (bt v0_0 x0_6)) fun r3 => (cb (!r3) (some (.inr (.inl false))) (ck (InR (x0_6 + (1 : Int))) (some (.inl (x0_6 + (1 : Int)))))))) (some (.inr (.inr ()))))
noncomputable def Q1j.l0 (v0_0 : ByteArray) (v0_5 : Int) (x0_6 : Int) : Option (Bool ⊕ Unit) :=
 Zj (fun (x : Int) => Q1j.s0 v0_0 v0_5 x) x0_6
noncomputable def Q1j.e0 : Ent where
 pre := []
 inv := [(0, .val .str), (5, .val (.int .i64))]
 car := ⟨[(6, .val (.int .i64))], []⟩
 exits := [(.ret, ⟨[(2, .val .bool)], []⟩), (.exit 0, ⟨[], []⟩)]
 step := fun iv x => Q1j.s0 iv.1 iv.2 x
noncomputable def Q1j.f (a0 : ByteArray) : Option Bool :=
 (let y1 : Int := ((ByteArray.size a0 : Nat) : Int); (ob (Q1j.l0 a0 y1 (0 : Int)) fun r4 => (Z1g r4 (fun a5 => (some a5)) (fun b6 => (cb (!decide (a0 = bs_)) (cb (!decide (a0 = Q3a)) (some (!decide (a0 = Q38))) (some false)) (some false))))))
noncomputable def Q1j.fn : TFn := ⟨[.str], [.bool], fun x => Q1j.f x⟩
noncomputable def Q1j.C : Cx := cxC [((143, [0]), Q2q.fn)] 25
theorem Q1j.hC : CxOK Tryz.prog Q1j.C := cxq (FsOK.cons Q2q.ok (FsOK.nil))
noncomputable def Q1j.root : Code := Z6 Tryz.f126
theorem Q1j.h0 : LsOK Tryz.prog Q1j.C Q1j.root (lkL [([0, 1, 0, 1], Q1j.e0)]) :=
 LsOK.cons Q1j.hC (LsOK.nil) (by kernel_rfl) (fun iv x => by kernel_rfl)
theorem Q1j.ok : FnOK Tryz.prog 126 Q1j.fn := .qq Q1j.root Q1j.hC Tryz.func126 (lkL [([0, 1, 0, 1], Q1j.e0)]) [.tmp 2] Q1j.h0 fun x => by kernel_rfl
noncomputable def Q1a.s0 (v0_14 : (List ByteArray)) (v0_15 : Int) (x0_16 : Int) : Option (Int ⊕ (Bool ⊕ Unit)) :=
 (cb (decide (x0_16 < v0_15)) (ck (0 ≤ x0_16 ∧ x0_16 < ((List.length v0_14 : Nat) : Int)) (let y7 : ByteArray := (rd ByteArray.empty v0_14 x0_16); (ob (Q1j.f y7) fun r8 => (cb (!r8) (some (.inr (.inl false))) (ck (InR (x0_16 + (1 : Int))) (some (.inl (x0_16 + (1 : Int))))))))) (some (.inr (.inr ()))))
noncomputable def Q1a.l0 (v0_14 : (List ByteArray)) (v0_15 : Int) (x0_16 : Int) : Option (Bool ⊕ Unit) :=
 Zj (fun (x : Int) => Q1a.s0 v0_14 v0_15 x) x0_16
noncomputable def Q1a.e0 : Ent where
 pre := []
 inv := [(14, .val (.slice .str)), (15, .val (.int .i64))]
 car := ⟨[(16, .val (.int .i64))], []⟩
 exits := [(.ret, ⟨[(2, .val .bool)], []⟩), (.exit 0, ⟨[], []⟩)]
 step := fun iv x => Q1a.s0 iv.1 iv.2 x
noncomputable def Q1a.f (a0 : ByteArray) : Option Bool :=
 (let y1 : Int := ((ByteArray.size a0 : Nat) : Int); (cb (decide (y1 < (1 : Int))) (some false) (let y2 : Int := ((ByteArray.size a0 : Nat) : Int); (cb (decide ((200 : Int) < y2)) (some false) (ob (Q1v.f a0 Q35) fun r3 => (let y4 : Int := ((List.length r3 : Nat) : Int); (ob (Q1a.l0 r3 y4 (0 : Int)) fun r9 => (Z1g r9 (fun a10 => (some a10)) (fun b11 => (some true))))))))))
noncomputable def Q1a.fn : TFn := ⟨[.str], [.bool], fun x => Q1a.f x⟩
noncomputable def Q1a.C : Cx := cxC [((125, [0, 0]), Q1v.fn), ((126, [0]), Q1j.fn)] 24
theorem Q1a.hC : CxOK Tryz.prog Q1a.C := cxq (FsOK.cons Q1v.ok (FsOK.cons Q1j.ok (FsOK.nil)))
noncomputable def Q1a.root : Code := Z6 Tryz.f104
theorem Q1a.h0 : LsOK Tryz.prog Q1a.C Q1a.root (lkL [([0, 1, 0, 1, 1], Q1a.e0)]) :=
 LsOK.cons Q1a.hC (LsOK.nil) (by kernel_rfl) (fun iv x => by kernel_rfl)
theorem Q1a.ok : FnOK Tryz.prog 104 Q1a.fn := .qq Q1a.root Q1a.hC Tryz.func104 (lkL [([0, 1, 0, 1, 1], Q1a.e0)]) [.tmp 2] Q1a.h0 fun x => by kernel_rfl
noncomputable def Q12.f (a0 : ByteArray) (a1 : ByteArray) : Option (ByteArray × Bool) :=
 (ob (Qn.f a0 a1) fun r1 => (cb (!r1) (some (a0, false)) (let y2 : Int := ((ByteArray.size a1 : Nat) : Int); (ck (0 ≤ y2 ∧ y2 ≤ ((ByteArray.size a0 : Nat) : Int)) (let y3 : ByteArray := (ByteArray.extract a0 (Int.toNat y2) (ByteArray.size a0)); (some (y3, true)))))))
noncomputable def Q12.fn : TFn := ⟨[.str, .str], [.str, .bool], fun x => Q12.f x.1 x.2⟩
noncomputable def Q12.C : Cx := cxC [((81, [0, 0]), Qn.fn)] 15
theorem Q12.hC : CxOK Tryz.prog Q12.C := cxq (FsOK.cons Qn.ok (FsOK.nil))
noncomputable def Q12.root : Code := Z6 Tryz.f127
theorem Q12.ok : FnOK Tryz.prog 127 Q12.fn := .qq Q12.root Q12.hC Tryz.func127 (lkL []) [.tmp 4, .tmp 5] LsOK.nil fun x => by kernel_rfl
noncomputable def Q1h.f (a0 : ByteArray) (a1 : ByteArray) : Option (ByteArray × Bool) :=
 (ob (Q12.f a0 a1) fun r1 => (some (r1.1, r1.2)))
noncomputable def Q1h.fn : TFn := ⟨[.str, .str], [.str, .bool], fun x => Q1h.f x.1 x.2⟩
noncomputable def Q1h.C : Cx := cxC [((127, [0, 0]), Q12.fn)] 11
theorem Q1h.hC : CxOK Tryz.prog Q1h.C := cxq (FsOK.cons Q12.ok (FsOK.nil))
noncomputable def Q1h.root : Code := Z6 Tryz.f105
theorem Q1h.ok : FnOK Tryz.prog 105 Q1h.fn := .qq Q1h.root Q1h.hC Tryz.func105 (lkL []) [.tmp 4, .tmp 5] LsOK.nil fun x => by kernel_rfl
noncomputable def Q1k.f (a0 : ByteArray) (a1 : ByteArray) : Option (ByteArray × (ByteArray × Bool)) :=
 (ob (Q1w.f a0 a1) fun r1 => (cb (decide ((0 : Int) ≤ r1)) (ck (0 ≤ r1 ∧ r1 ≤ ((ByteArray.size a0 : Nat) : Int)) (let y2 : ByteArray := (ByteArray.extract a0 0 (Int.toNat r1)); (let y3 : Int := ((ByteArray.size a1 : Nat) : Int); (ck (InR (r1 + y3)) (ck (0 ≤ (r1 + y3) ∧ (r1 + y3) ≤ ((ByteArray.size a0 : Nat) : Int)) (let y4 : ByteArray := (ByteArray.extract a0 (Int.toNat (r1 + y3)) (ByteArray.size a0)); (some (y2, y4, true)))))))) (some (a0, bs_, false))))
noncomputable def Q1k.fn : TFn := ⟨[.str, .str], [.str, .str, .bool], fun x => Q1k.f x.1 x.2⟩
noncomputable def Q1k.C : Cx := ⟨T, TYt, lkF [((144, [0, 0]), Q1w.fn)], lkO [], lkD [(3, 10, [(0, true), (1, true), (2, true), (3, true), (4, true), (5, true), (6, true), (7, true), (8, true), (9, true)], none)], lkP [], [], [], false, [], [], lkS [], 23, lkW [], 0⟩
theorem Q1k.hC : CxOK Tryz.prog Q1k.C := cxq (FsOK.cons Q1w.ok (FsOK.nil))
noncomputable def Q1k.root : Code := Z6 Tryz.f128
theorem Q1k.ok : FnOK Tryz.prog 128 Q1k.fn := .qq Q1k.root Q1k.hC Tryz.func128 (lkL []) [.tmp 4, .tmp 5, .tmp 6] LsOK.nil fun x => by kernel_rfl
noncomputable def Q2d.f (a0 : ByteArray) (a1 : ByteArray) : Option (ByteArray × (ByteArray × Bool)) :=
 (ob (Q1k.f a0 a1) fun r1 => (some (r1.1, r1.2.1, r1.2.2)))
noncomputable def Q2d.fn : TFn := ⟨[.str, .str], [.str, .str, .bool], fun x => Q2d.f x.1 x.2⟩
noncomputable def Q2d.C : Cx := cxC [((128, [0, 0]), Q1k.fn)] 13
theorem Q2d.hC : CxOK Tryz.prog Q2d.C := cxq (FsOK.cons Q1k.ok (FsOK.nil))
noncomputable def Q2d.root : Code := Z6 Tryz.f106
theorem Q2d.ok : FnOK Tryz.prog 106 Q2d.fn := .qq Q2d.root Q2d.hC Tryz.func106 (lkL []) [.tmp 4, .tmp 5, .tmp 6] LsOK.nil fun x => by kernel_rfl
noncomputable def Q2.s0 (v0_0 : ByteArray) (v0_1 : UInt8) (x0_5 : Int) : Option (Int ⊕ (Int ⊕ Unit)) :=
 (cb (decide ((0 : Int) ≤ x0_5)) (ck (0 ≤ x0_5 ∧ x0_5 < ((ByteArray.size v0_0 : Nat) : Int)) (cb (decide (((UInt8.toNat (bt v0_0 x0_5) : Nat) : Int) = ((UInt8.toNat v0_1 : Nat) : Int))) (some (.inr (.inl x0_5))) (ck (InR (x0_5 - (1 : Int))) (some (.inl (x0_5 - (1 : Int))))))) (some (.inr (.inr ()))))
noncomputable def Q2.l0 (v0_0 : ByteArray) (v0_1 : UInt8) (x0_5 : Int) : Option (Int ⊕ Unit) :=
 Zj (fun (x : Int) => Q2.s0 v0_0 v0_1 x) x0_5
noncomputable def Q2.e0 : Ent where
 pre := []
 inv := [(0, .val .str), (1, .val .byte)]
 car := ⟨[(5, .val (.int .i64))], []⟩
 exits := [(.ret, ⟨[(4, .val (.int .i64))], []⟩), (.exit 0, ⟨[], []⟩)]
 step := fun iv x => Q2.s0 iv.1 iv.2 x
noncomputable def Q2.f (a0 : ByteArray) (a1 : UInt8) : Option Int :=
 (let y1 : Int := ((ByteArray.size a0 : Nat) : Int); (ck (InR (y1 - (1 : Int))) (ob (Q2.l0 a0 a1 (y1 - (1 : Int))) fun r2 => (Z1g r2 (fun a3 => (some a3)) (fun b4 => (some (-1 : Int)))))))
noncomputable def Q2.fn : TFn := ⟨[.str, .byte], [(.int .i64)], fun x => Q2.f x.1 x.2⟩
noncomputable def Q2.C : Cx := cxC [] 19
theorem Q2.hC : CxOK Tryz.prog Q2.C := cxq FsOK.nil
noncomputable def Q2.root : Code := Z6 Tryz.f145
theorem Q2.h0 : LsOK Tryz.prog Q2.C Q2.root (lkL [([0, 1, 0, 1], Q2.e0)]) :=
 LsOK.cons Q2.hC (LsOK.nil) (by kernel_rfl) (fun iv x => by kernel_rfl)
theorem Q2.ok : FnOK Tryz.prog 145 Q2.fn := .qq Q2.root Q2.hC Tryz.func145 (lkL [([0, 1, 0, 1], Q2.e0)]) [.tmp 4] Q2.h0 fun x => by kernel_rfl
noncomputable def Q1g.f (a0 : ByteArray) (a1 : UInt8) : Option Int :=
 (ob (Q2.f a0 a1) fun r1 => (some r1))
noncomputable def Q1g.fn : TFn := ⟨[.str, .byte], [(.int .i64)], fun x => Q1g.f x.1 x.2⟩
noncomputable def Q1g.C : Cx := cxC [((145, [0, 0]), Q2.fn)] 8
theorem Q1g.hC : CxOK Tryz.prog Q1g.C := cxq (FsOK.cons Q2.ok (FsOK.nil))
noncomputable def Q1g.root : Code := Z6 Tryz.f129
theorem Q1g.ok : FnOK Tryz.prog 129 Q1g.fn := .qq Q1g.root Q1g.hC Tryz.func129 (lkL []) [.tmp 4] LsOK.nil fun x => by kernel_rfl
noncomputable def Q2i.f (a0 : ByteArray) : Option ByteArray :=
 (ob (Q1g.f a0 (UInt8.ofInt (47 : Int))) fun r1 => (ck (InR (r1 + (1 : Int))) (ck (0 ≤ (r1 + (1 : Int)) ∧ (r1 + (1 : Int)) ≤ ((ByteArray.size a0 : Nat) : Int)) (let y2 : ByteArray := (ByteArray.extract a0 (Int.toNat (r1 + (1 : Int))) (ByteArray.size a0)); (some y2)))))
noncomputable def Q2i.fn : TFn := ⟨[.str], [.str], fun x => Q2i.f x⟩
noncomputable def Q2i.C : Cx := cxC [((129, [0, 0]), Q1g.fn)] 8
theorem Q2i.hC : CxOK Tryz.prog Q2i.C := cxq (FsOK.cons Q1g.ok (FsOK.nil))
noncomputable def Q2i.root : Code := Z6 Tryz.f107
theorem Q2i.ok : FnOK Tryz.prog 107 Q2i.fn := .qq Q2i.root Q2i.hC Tryz.func107 (lkL []) [.tmp 2] LsOK.nil fun x => by kernel_rfl
noncomputable def Q1b.f (a0 : (ByteArray × ByteArray)) : Option Int :=
 (cb (!decide (a0.1 = bs_)) (ob (Q1a.f a0.1) fun r1 => (cb (!r1) (some (3 : Int)) (ob (Q1a.f a0.2) fun r2 => (cb (!r2) (some (3 : Int)) (some (0 : Int)))))) (ob (Q1a.f a0.2) fun r3 => (cb (!r3) (some (3 : Int)) (some (0 : Int)))))
noncomputable def Q1b.fn : TFn := ⟨[(.pair .str .str)], [(.int .i64)], fun x => Q1b.f x⟩
noncomputable def Q1b.C : Cx := ⟨T, TYt, lkF [((104, [0]), Q1a.fn)], lkO [], lkD [], lkP [], [1], [], false, [], [], lkS [], 18, lkW [], 0⟩
theorem Q1b.hC : CxOK Tryz.prog Q1b.C := cxq (FsOK.cons Q1a.ok (FsOK.nil))
noncomputable def Q1b.root : Code := Z6 Tryz.f108
theorem Q1b.ok : FnOK Tryz.prog 108 Q1b.fn := .qq Q1b.root Q1b.hC Tryz.func108 (lkL []) [.tmp 2] LsOK.nil fun x => by kernel_rfl
noncomputable def Q28.f (a0 : ByteArray) (a1 : ByteArray) : Option ((ByteArray × ByteArray) × Int) :=
 (cb (!decide (a1 = bs_)) (ob (Q1a.f a1) fun r1 => (cb (!r1) (some ((bs_, bs_), (3 : Int))) (ob (Q1h.f a0 Q1f) fun r2 => (ob (Q1h.f a0 Q33) fun r3 => (cb r2.2 (ob (Q2d.f r2.1 Q33) fun r4 => (cb (!r4.2.2) (ob (Q2i.f r4.1) fun r5 => (ob (Q1b.f (r4.1, r5)) fun r6 => (cb (!decide (r6 = (0 : Int))) (some ((bs_, bs_), (10 : Int))) (some ((r4.1, r5), (0 : Int)))))) (ob (Q1b.f (r4.1, r4.2.1)) fun r7 => (cb (!decide (r7 = (0 : Int))) (some ((bs_, bs_), (10 : Int))) (some ((r4.1, r4.2.1), (0 : Int))))))) (cb r3.2 (ob (Q1b.f (a1, r3.1)) fun r8 => (cb (!decide (r8 = (0 : Int))) (some ((bs_, bs_), (10 : Int))) (some ((a1, r3.1), (0 : Int))))) (ob (Q1b.f (bs_, bs_)) fun r9 => (cb (!decide (r9 = (0 : Int))) (some ((bs_, bs_), (10 : Int))) (some ((bs_, bs_), (0 : Int))))))))))) (ob (Q1h.f a0 Q1f) fun r10 => (ob (Q1h.f a0 Q33) fun r11 => (cb r10.2 (ob (Q2d.f r10.1 Q33) fun r12 => (cb (!r12.2.2) (ob (Q2i.f r12.1) fun r13 => (ob (Q1b.f (r12.1, r13)) fun r14 => (cb (!decide (r14 = (0 : Int))) (some ((bs_, bs_), (10 : Int))) (some ((r12.1, r13), (0 : Int)))))) (ob (Q1b.f (r12.1, r12.2.1)) fun r15 => (cb (!decide (r15 = (0 : Int))) (some ((bs_, bs_), (10 : Int))) (some ((r12.1, r12.2.1), (0 : Int))))))) (cb r11.2 (ob (Q1b.f (a1, r11.1)) fun r16 => (cb (!decide (r16 = (0 : Int))) (some ((bs_, bs_), (10 : Int))) (some ((a1, r11.1), (0 : Int))))) (ob (Q1b.f (bs_, bs_)) fun r17 => (cb (!decide (r17 = (0 : Int))) (some ((bs_, bs_), (10 : Int))) (some ((bs_, bs_), (0 : Int))))))))))
noncomputable def Q28.fn : TFn := ⟨[.str, .str], [(.pair .str .str), (.int .i64)], fun x => Q28.f x.1 x.2⟩
noncomputable def Q28.C : Cx := cxC [((104, [0]), Q1a.fn), ((105, [0, 0]), Q1h.fn), ((106, [0, 0]), Q2d.fn), ((107, [0]), Q2i.fn), ((108, [0]), Q1b.fn)] 56
theorem Q28.hC : CxOK Tryz.prog Q28.C := cxq (FsOK.cons Q1a.ok (FsOK.cons Q1h.ok (FsOK.cons Q2d.ok (FsOK.cons Q2i.ok (FsOK.cons Q1b.ok (FsOK.nil))))))
noncomputable def Q28.root : Code := Z6 Tryz.f79
theorem Q28.ok : FnOK Tryz.prog 79 Q28.fn := .qq Q28.root Q28.hC Tryz.func79 (lkL []) [.cell 4 103, .tmp 5] LsOK.nil fun x => by kernel_rfl
noncomputable def Q2h.f (a0 : (ByteArray × ByteArray)) : Option ByteArray :=
 (ck (((ByteArray.size Q1f + ByteArray.size a0.1 : Nat) : Int) ≤ 9223372036854775807) (ck (((ByteArray.size (Q1f ++ a0.1) + ByteArray.size Q33 : Nat) : Int) ≤ 9223372036854775807) (let y1 : ByteArray := ((Q1f ++ a0.1) ++ Q33); (ck (((ByteArray.size y1 + ByteArray.size a0.2 : Nat) : Int) ≤ 9223372036854775807) (some (y1 ++ a0.2))))))
noncomputable def Q2h.fn : TFn := ⟨[(.pair .str .str)], [.str], fun x => Q2h.f x⟩
noncomputable def Q2h.C : Cx := ⟨T, TYt, lkF [], lkO [], lkD [], lkP [], [1], [], false, [], [], lkS [], 10, lkW [], 0⟩
theorem Q2h.hC : CxOK Tryz.prog Q2h.C := cxq FsOK.nil
noncomputable def Q2h.root : Code := Z6 Tryz.f80
theorem Q2h.ok : FnOK Tryz.prog 80 Q2h.fn := .qq Q2h.root Q2h.hC Tryz.func80 (lkL []) [.tmp 2] LsOK.nil fun x => by kernel_rfl
noncomputable def Q1s.f (a0 : ByteArray) : Option Bool :=
 (ob (Q28.f a0 bs_) fun r1 => (cb (decide (r1.2 = (0 : Int))) (ob (Q2h.f r1.1) fun r2 => (some (decide (r2 = a0)))) (some false)))
noncomputable def Q1s.fn : TFn := ⟨[.str], [.bool], fun x => Q1s.f x⟩
noncomputable def Q1s.C : Cx := ⟨T, TYt, lkF [((79, [0, 0]), Q28.fn), ((80, [0]), Q2h.fn)], lkO [], lkD [], lkP [], [3], [], false, [], [], lkS [], 18, lkW [], 0⟩
theorem Q1s.hC : CxOK Tryz.prog Q1s.C := cxq (FsOK.cons Q28.ok (FsOK.cons Q2h.ok (FsOK.nil)))
noncomputable def Q1s.root : Code := Z6 Tryz.f54
theorem Q1s.ok : FnOK Tryz.prog 54 Q1s.fn := .qq Q1s.root Q1s.hC Tryz.func54 (lkL []) [.tmp 2] LsOK.nil fun x => by kernel_rfl
noncomputable def Qf.s0 (v0_1 : (ByteArray × (ByteArray × (ByteArray × (ByteArray × (Int × ((List ByteArray) × ByteArray))))))) (v0_36 : (List ByteArray)) (v0_37 : Int) (x0_38 : Int) : Option (Int ⊕ (Int ⊕ Unit)) :=
 (cb (decide (x0_38 < v0_37)) (ck (0 ≤ x0_38 ∧ x0_38 < ((List.length v0_36 : Nat) : Int)) (let y11 : ByteArray := (rd ByteArray.empty v0_36 x0_38); (ob (Q1q.f y11) fun r12 => (cb (!r12) (some (.inr (.inl (3 : Int)))) (cb (decide ((0 : Int) < x0_38)) (ck (InR (x0_38 - (1 : Int))) (ck (0 ≤ (x0_38 - (1 : Int)) ∧ (x0_38 - (1 : Int)) < ((List.length v0_1.2.2.2.2.2.1 : Nat) : Int)) (let y13 : ByteArray := (rd ByteArray.empty v0_1.2.2.2.2.2.1 (x0_38 - (1 : Int))); (cb (Z3v y11 y13 || decide (y11 = y13)) (some (.inr (.inl (8 : Int)))) (ck (InR (x0_38 + (1 : Int))) (some (.inl (x0_38 + (1 : Int))))))))) (ck (InR (x0_38 + (1 : Int))) (some (.inl (x0_38 + (1 : Int)))))))))) (some (.inr (.inr ()))))
noncomputable def Qf.l0 (v0_1 : (ByteArray × (ByteArray × (ByteArray × (ByteArray × (Int × ((List ByteArray) × ByteArray))))))) (v0_36 : (List ByteArray)) (v0_37 : Int) (x0_38 : Int) : Option (Int ⊕ Unit) :=
 Zj (fun (x : Int) => Qf.s0 v0_1 v0_36 v0_37 x) x0_38
noncomputable def Qf.e0 : Ent where
 pre := []
 inv := [(1, .rp (.pair .str (.pair .str (.pair .str (.pair .str (.pair (.int .i64) (.pair (.slice .str) .str))))))), (36, .val (.slice .str)), (37, .val (.int .i64))]
 car := ⟨[(38, .val (.int .i64))], []⟩
 exits := [(.ret, ⟨[(2, .val (.int .i64))], []⟩), (.exit 1, ⟨[], []⟩)]
 step := fun iv x => Qf.s0 iv.1 iv.2.1 iv.2.2 x
noncomputable def Qf.f (a0 : (ByteArray × (ByteArray × (ByteArray × (ByteArray × (Int × ((List ByteArray) × ByteArray))))))) : Option Int :=
 (ob (Q1q.f a0.1) fun r1 => (cb (!r1) (some (3 : Int)) (ob (Q1s.f a0.2.1) fun r2 => (cb (!r2) (some (10 : Int)) (ob (Q1q.f a0.2.2.1) fun r3 => (cb (!r3) (some (3 : Int)) (ob (Q1y.f a0.2.2.2.1) fun r4 => (cb (!r4) (some (5 : Int)) (ob (Q1n.f a0.2.2.2.2.1 (0 : Int) (1000000000 : Int)) fun r5 => (cb (!r5) (some (1 : Int)) (let y6 : Int := ((List.length a0.2.2.2.2.2.1 : Nat) : Int); (cb (decide ((50 : Int) < y6)) (some (2 : Int)) (let y7 : Int := ((List.length a0.2.2.2.2.2.1 : Nat) : Int); (ob (Qf.l0 a0 a0.2.2.2.2.2.1 y7 (0 : Int)) fun r14 => (Z1g r14 (fun a15 => (some a15)) (fun b16 => (cb (!decide (a0.2.2.2.2.2.2 = bs_)) (ob (Q1q.f a0.2.2.2.2.2.2) fun r17 => (cb (!r17) (some (3 : Int)) (some (0 : Int)))) (some (0 : Int)))))))))))))))))))
noncomputable def Qf.fn : TFn := ⟨[(.pair .str (.pair .str (.pair .str (.pair .str (.pair (.int .i64) (.pair (.slice .str) .str))))))], [(.int .i64)], fun x => Qf.f x⟩
noncomputable def Qf.C : Cx := ⟨T, TYt, lkF [((17, [0]), Q1q.fn), ((18, [0, 0, 0]), Q1n.fn), ((53, [0]), Q1y.fn), ((54, [0]), Q1s.fn)], lkO [], lkD [], lkP [], [1], [], false, [], [], lkS [], 68, lkW [], 0⟩
theorem Qf.hC : CxOK Tryz.prog Qf.C := cxq (FsOK.cons Q1q.ok (FsOK.cons Q1n.ok (FsOK.cons Q1y.ok (FsOK.cons Q1s.ok (FsOK.nil)))))
noncomputable def Qf.root : Code := Z6 Tryz.f58
theorem Qf.h0 : LsOK Tryz.prog Qf.C Qf.root (lkL [([0, 1, 0, 1, 1], Qf.e0)]) :=
 LsOK.cons Qf.hC (LsOK.nil) (by kernel_rfl) (fun iv x => by kernel_rfl)
theorem Qf.ok : FnOK Tryz.prog 58 Qf.fn := .qq Qf.root Qf.hC Tryz.func58 (lkL [([0, 1, 0, 1, 1], Qf.e0)]) [.tmp 2] Qf.h0 fun x => by kernel_rfl
noncomputable def Ql.s0 (v0_0 : (List (ByteArray × (ByteArray × (ByteArray × (ByteArray × (Int × ((List ByteArray) × ByteArray)))))))) (v0_9 : (List (ByteArray × (ByteArray × (ByteArray × (ByteArray × (Int × ((List ByteArray) × ByteArray)))))))) (v0_10 : Int) (x0_11 : Int) : Option (Int ⊕ (Int ⊕ Unit)) :=
 (cb (decide (x0_11 < v0_10)) (ck (0 ≤ x0_11 ∧ x0_11 < ((List.length v0_9 : Nat) : Int)) (let y6 : (ByteArray × (ByteArray × (ByteArray × (ByteArray × (Int × ((List ByteArray) × ByteArray)))))) := (rd (ByteArray.empty, (ByteArray.empty, (ByteArray.empty, (ByteArray.empty, ((0 : Int), (([] : (List ByteArray)), ByteArray.empty)))))) v0_9 x0_11); (ob (Qf.f y6) fun r7 => (cb (!decide (r7 = (0 : Int))) (some (.inr (.inl r7))) (cb (decide (y6.2.2.2.2.2.2 = bs_)) (some (.inr (.inl (3 : Int)))) (cb (decide ((0 : Int) < x0_11)) (ck (InR (x0_11 - (1 : Int))) (ck (0 ≤ (x0_11 - (1 : Int)) ∧ (x0_11 - (1 : Int)) < ((List.length v0_0 : Nat) : Int)) (let y8 : Int := (rd (ByteArray.empty, (ByteArray.empty, (ByteArray.empty, (ByteArray.empty, ((0 : Int), (([] : (List ByteArray)), ByteArray.empty)))))) v0_0 (x0_11 - (1 : Int))).2.2.2.2.1; (cb (decide (y6.2.2.2.2.1 < y8)) (some (.inr (.inl (8 : Int)))) (ck (InR (x0_11 + (1 : Int))) (some (.inl (x0_11 + (1 : Int))))))))) (ck (InR (x0_11 + (1 : Int))) (some (.inl (x0_11 + (1 : Int))))))))))) (some (.inr (.inr ()))))
noncomputable def Ql.l0 (v0_0 : (List (ByteArray × (ByteArray × (ByteArray × (ByteArray × (Int × ((List ByteArray) × ByteArray)))))))) (v0_9 : (List (ByteArray × (ByteArray × (ByteArray × (ByteArray × (Int × ((List ByteArray) × ByteArray)))))))) (v0_10 : Int) (x0_11 : Int) : Option (Int ⊕ Unit) :=
 Zj (fun (x : Int) => Ql.s0 v0_0 v0_9 v0_10 x) x0_11
noncomputable def Ql.e0 : Ent where
 pre := []
 inv := [(0, .val (.slice (.pair .str (.pair .str (.pair .str (.pair .str (.pair (.int .i64) (.pair (.slice .str) .str)))))))), (9, .val (.slice (.pair .str (.pair .str (.pair .str (.pair .str (.pair (.int .i64) (.pair (.slice .str) .str)))))))), (10, .val (.int .i64))]
 car := ⟨[(11, .val (.int .i64))], []⟩
 exits := [(.ret, ⟨[(2, .val (.int .i64))], []⟩), (.exit 0, ⟨[], []⟩)]
 step := fun iv x => Ql.s0 iv.1 iv.2.1 iv.2.2 x
noncomputable def Ql.f (a0 : (List (ByteArray × (ByteArray × (ByteArray × (ByteArray × (Int × ((List ByteArray) × ByteArray)))))))) : Option Int :=
 (let y1 : Int := ((List.length a0 : Nat) : Int); (cb (decide ((1000 : Int) < y1)) (some (2 : Int)) (let y2 : Int := ((List.length a0 : Nat) : Int); (ob (Ql.l0 a0 a0 y2 (0 : Int)) fun r9 => (Z1g r9 (fun a10 => (some a10)) (fun b11 => (some (0 : Int))))))))
noncomputable def Ql.fn : TFn := ⟨[(.slice (.pair .str (.pair .str (.pair .str (.pair .str (.pair (.int .i64) (.pair (.slice .str) .str)))))))], [(.int .i64)], fun x => Ql.f x⟩
noncomputable def Ql.C : Cx := ⟨T, TYt, lkF [((58, [0]), Qf.fn)], lkO [], lkD [(11, 11, [(0, true), (1, true), (2, true), (3, true), (4, true), (5, true), (6, true), (7, true), (8, true), (9, true), (10, true)], none)], lkP [], [4], [], false, [], [], lkS [], 38, lkW [], 0⟩
theorem Ql.hC : CxOK Tryz.prog Ql.C := cxq (FsOK.cons Qf.ok (FsOK.nil))
noncomputable def Ql.root : Code := Z6 Tryz.f32
theorem Ql.h0 : LsOK Tryz.prog Ql.C Ql.root (lkL [([0, 1, 0, 1, 1], Ql.e0)]) :=
 LsOK.cons Ql.hC (LsOK.nil) (by kernel_rfl) (fun iv x => by kernel_rfl)
theorem Ql.ok : FnOK Tryz.prog 32 Ql.fn := .qq Ql.root Ql.hC Tryz.func32 (lkL [([0, 1, 0, 1, 1], Ql.e0)]) [.tmp 2] Ql.h0 fun x => by kernel_rfl
noncomputable def Qj.s0 (v0_0 : (List (ByteArray × (ByteArray × (ByteArray × (ByteArray × (Int × ((List ByteArray) × ByteArray)))))))) (v0_1 : (List (Int × (ByteArray × Int)))) (v0_16 : (List (Int × (ByteArray × Int)))) (v0_17 : Int) (x0_18 : Int) : Option (Int ⊕ (Int ⊕ Unit)) :=
 (cb (decide (x0_18 < v0_17)) (ck (0 ≤ x0_18 ∧ x0_18 < ((List.length v0_16 : Nat) : Int)) (let y11 : (Int × (ByteArray × Int)) := (rd ((0 : Int), (ByteArray.empty, (0 : Int))) v0_16 x0_18); (let y12 : Int := ((List.length v0_0 : Nat) : Int); (ck (InR (y12 - (1 : Int))) (ob (Q1n.f y11.1 (0 : Int) (y12 - (1 : Int))) fun r13 => (cb (!r13) (some (.inr (.inl (9 : Int)))) (ob (Q1q.f y11.2.1) fun r14 => (cb (!r14) (some (.inr (.inl (3 : Int)))) (ck (0 ≤ y11.1 ∧ y11.1 < ((List.length v0_0 : Nat) : Int)) (let y15 : Int := (rd (ByteArray.empty, (ByteArray.empty, (ByteArray.empty, (ByteArray.empty, ((0 : Int), (([] : (List ByteArray)), ByteArray.empty)))))) v0_0 y11.1).2.2.2.2.1; (ob (Q1n.f y11.2.2 y15 (1000000000 : Int)) fun r16 => (cb (!r16) (some (.inr (.inl (1 : Int)))) (cb (decide ((0 : Int) < x0_18)) (ck (InR (x0_18 - (1 : Int))) (ck (0 ≤ (x0_18 - (1 : Int)) ∧ (x0_18 - (1 : Int)) < ((List.length v0_1 : Nat) : Int)) (let y17 : Int := (rd ((0 : Int), (ByteArray.empty, (0 : Int))) v0_1 (x0_18 - (1 : Int))).2.2; (cb (decide (y11.2.2 < y17)) (some (.inr (.inl (8 : Int)))) (ck (InR (x0_18 + (1 : Int))) (some (.inl (x0_18 + (1 : Int))))))))) (ck (InR (x0_18 + (1 : Int))) (some (.inl (x0_18 + (1 : Int)))))))))))))))))) (some (.inr (.inr ()))))
noncomputable def Qj.l0 (v0_0 : (List (ByteArray × (ByteArray × (ByteArray × (ByteArray × (Int × ((List ByteArray) × ByteArray)))))))) (v0_1 : (List (Int × (ByteArray × Int)))) (v0_16 : (List (Int × (ByteArray × Int)))) (v0_17 : Int) (x0_18 : Int) : Option (Int ⊕ Unit) :=
 Zj (fun (x : Int) => Qj.s0 v0_0 v0_1 v0_16 v0_17 x) x0_18
noncomputable def Qj.e0 : Ent where
 pre := []
 inv := [(0, .val (.slice (.pair .str (.pair .str (.pair .str (.pair .str (.pair (.int .i64) (.pair (.slice .str) .str)))))))), (1, .val (.slice (.pair (.int .i64) (.pair .str (.int .i64))))), (16, .val (.slice (.pair (.int .i64) (.pair .str (.int .i64))))), (17, .val (.int .i64))]
 car := ⟨[(18, .val (.int .i64))], []⟩
 exits := [(.ret, ⟨[(4, .val (.int .i64))], []⟩), (.exit 0, ⟨[], []⟩)]
 step := fun iv x => Qj.s0 iv.1 iv.2.1 iv.2.2.1 iv.2.2.2 x
noncomputable def Qj.f (a0 : (List (ByteArray × (ByteArray × (ByteArray × (ByteArray × (Int × ((List ByteArray) × ByteArray)))))))) (a1 : (List (Int × (ByteArray × Int)))) : Option Int :=
 (ob (Ql.f a0) fun r1 => (cb (!decide (r1 = (0 : Int))) (some r1) (let y2 : Int := ((List.length a1 : Nat) : Int); (cb (decide ((1000 : Int) < y2)) (some (2 : Int)) (let y3 : Int := ((List.length a1 : Nat) : Int); (ob (Qj.l0 a0 a1 a1 y3 (0 : Int)) fun r18 => (Z1g r18 (fun a19 => (some a19)) (fun b20 => (some (0 : Int))))))))))
noncomputable def Qj.fn : TFn := ⟨[(.slice (.pair .str (.pair .str (.pair .str (.pair .str (.pair (.int .i64) (.pair (.slice .str) .str))))))), (.slice (.pair (.int .i64) (.pair .str (.int .i64))))], [(.int .i64)], fun x => Qj.f x.1 x.2⟩
noncomputable def Qj.C : Cx := ⟨T, TYt, lkF [((17, [0]), Q1q.fn), ((18, [0, 0, 0]), Q1n.fn), ((32, [0]), Ql.fn)], lkO [], lkD [(13, 8, [(0, true), (1, true), (2, true), (3, true), (4, true), (5, true), (6, true), (7, true)], none), (15, 11, [(0, true), (1, true), (2, true), (3, true), (4, true), (5, true), (6, true), (7, true), (8, true), (9, true), (10, true)], none)], lkP [], [7], [], false, [], [], lkS [], 62, lkW [], 0⟩
theorem Qj.hC : CxOK Tryz.prog Qj.C := cxq (FsOK.cons Q1q.ok (FsOK.cons Q1n.ok (FsOK.cons Ql.ok (FsOK.nil))))
noncomputable def Qj.root : Code := Z6 Tryz.f16
theorem Qj.h0 : LsOK Tryz.prog Qj.C Qj.root (lkL [([0, 1, 0, 1, 1, 1], Qj.e0)]) :=
 LsOK.cons Qj.hC (LsOK.nil) (by kernel_rfl) (fun iv x => by kernel_rfl)
theorem Qj.ok : FnOK Tryz.prog 16 Qj.fn := .qq Qj.root Qj.hC Tryz.func16 (lkL [([0, 1, 0, 1, 1, 1], Qj.e0)]) [.tmp 4] Qj.h0 fun x => by kernel_rfl
noncomputable def Qw.s0 (v0_0 : (List (ByteArray × (ByteArray × (ByteArray × (ByteArray × (Int × ((List ByteArray) × ByteArray)))))))) (v0_16 : (List (Int × (ByteArray × Int)))) (v0_17 : Int) (x0_18 : Int) (o0_0_0 : (List Bool)) (o0_0_1 : (List Bool)) (o0_0_2 : (List (ByteArray × Bool))) (o0_1 : (List Bool)) (o0_2 : (List Bool)) (o0_3 : (List (ByteArray × Bool))) : Option ((Int × ((List Bool) × ((List Bool) × ((List (ByteArray × Bool)) × ((List Bool) × ((List Bool) × (List (ByteArray × Bool)))))))) ⊕ ((List Bool) × ((List Bool) × ((List (ByteArray × Bool)) × ((List Bool) × ((List Bool) × (List (ByteArray × Bool)))))))) :=
 (cb (decide (x0_18 < v0_17)) (ck (0 ≤ x0_18 ∧ x0_18 < ((List.length v0_16 : Nat) : Int)) (let y5 : (Int × (ByteArray × Int)) := (rd ((0 : Int), (ByteArray.empty, (0 : Int))) v0_16 x0_18); (ck (0 ≤ y5.1 ∧ y5.1 < ((List.length o0_1 : Nat) : Int)) (ck ((Int.toNat y5.1) < List.length o0_1) (ck (0 ≤ y5.1 ∧ y5.1 < ((List.length v0_0 : Nat) : Int)) (let y6 : ByteArray := (rd (ByteArray.empty, (ByteArray.empty, (ByteArray.empty, (ByteArray.empty, ((0 : Int), (([] : (List ByteArray)), ByteArray.empty)))))) v0_0 y5.1).2.2.1; (cb (!decide (y5.2.1 = y6)) (ck (0 ≤ y5.1 ∧ y5.1 < ((List.length o0_2 : Nat) : Int)) (ck ((Int.toNat y5.1) < List.length o0_2) (ck (0 ≤ y5.1 ∧ y5.1 < ((List.length v0_0 : Nat) : Int)) (let y7 : ByteArray := (rd (ByteArray.empty, (ByteArray.empty, (ByteArray.empty, (ByteArray.empty, ((0 : Int), (([] : (List ByteArray)), ByteArray.empty)))))) v0_0 y5.1).2.2.2.1; (ck (InR (x0_18 + (1 : Int))) (some (.inl ((x0_18 + (1 : Int)), o0_0_0, o0_0_1, o0_0_2, (List.set o0_1 (Int.toNat y5.1) true), (List.set o0_2 (Int.toNat y5.1) true), (mset y7 true o0_3))))))))) (ck (InR (x0_18 + (1 : Int))) (some (.inl ((x0_18 + (1 : Int)), o0_0_0, o0_0_1, o0_0_2, (List.set o0_1 (Int.toNat y5.1) true), o0_2, o0_3))))))))))) (some (.inr (o0_0_0, o0_0_1, o0_0_2, o0_1, o0_2, o0_3))))
noncomputable def Qw.l0 (v0_0 : (List (ByteArray × (ByteArray × (ByteArray × (ByteArray × (Int × ((List ByteArray) × ByteArray)))))))) (v0_16 : (List (Int × (ByteArray × Int)))) (v0_17 : Int) (x0_18 : Int) (o0_0_0 : (List Bool)) (o0_0_1 : (List Bool)) (o0_0_2 : (List (ByteArray × Bool))) (o0_1 : (List Bool)) (o0_2 : (List Bool)) (o0_3 : (List (ByteArray × Bool))) : Option ((List Bool) × ((List Bool) × ((List (ByteArray × Bool)) × ((List Bool) × ((List Bool) × (List (ByteArray × Bool))))))) :=
 Zj (fun (x : (Int × ((List Bool) × ((List Bool) × ((List (ByteArray × Bool)) × ((List Bool) × ((List Bool) × (List (ByteArray × Bool))))))))) => Qw.s0 v0_0 v0_16 v0_17 x.1 x.2.1 x.2.2.1 x.2.2.2.1 x.2.2.2.2.1 x.2.2.2.2.2.1 x.2.2.2.2.2.2) (x0_18, o0_0_0, o0_0_1, o0_0_2, o0_1, o0_2, o0_3)
noncomputable def Qw.e0 : Ent where
 pre := []
 inv := [(0, .val (.slice (.pair .str (.pair .str (.pair .str (.pair .str (.pair (.int .i64) (.pair (.slice .str) .str)))))))), (16, .val (.slice (.pair (.int .i64) (.pair .str (.int .i64))))), (17, .val (.int .i64))]
 car := ⟨[(4, .ptr 0 3), (5, .ptr 4 3), (18, .val (.int .i64))], [.box 67 [.val (.slice .bool), .val (.slice .bool), .val (.mp .bool)], .row 4 .bool, .row 4 .bool, .mapo .bool, .box 67 [.own 1 1, .own 2 1, .nm 3 []]]⟩
 exits := [(.exit 0, ⟨[(4, .ptr 0 3), (5, .ptr 4 3)], [.box 67 [.val (.slice .bool), .val (.slice .bool), .val (.mp .bool)], .row 4 .bool, .row 4 .bool, .mapo .bool, .box 67 [.own 1 1, .own 2 1, .nm 3 []]]⟩)]
 step := fun iv x => Qw.s0 iv.1 iv.2.1 iv.2.2 x.1 x.2.1 x.2.2.1 x.2.2.2.1 x.2.2.2.2.1 x.2.2.2.2.2.1 x.2.2.2.2.2.2
noncomputable def Qw.f (a0 : (List (ByteArray × (ByteArray × (ByteArray × (ByteArray × (Int × ((List ByteArray) × ByteArray)))))))) (a1 : (List (Int × (ByteArray × Int)))) : Option ((List Bool) × ((List Bool) × (List (ByteArray × Bool)))) :=
 (both (ck (0 ≤ ((List.length a0 : Nat) : Int) ∧ ((List.length a0 : Nat) : Int) * (1 : Int) ≤ 140737488355328) (both (ck (0 ≤ ((List.length a0 : Nat) : Int) ∧ ((List.length a0 : Nat) : Int) * (1 : Int) ≤ 140737488355328) (mix (.node .leaf .leaf) (let y1 : Int := ((List.length a1 : Nat) : Int); (ob (Qw.l0 a0 a1 y1 (0 : Int) ([] : List Bool) ([] : List Bool) ([] : (List (ByteArray × Bool))) (List.replicate (Int.toNat ((List.length a0 : Nat) : Int)) false) (List.replicate (Int.toNat ((List.length a0 : Nat) : Int)) false) ([] : List (ByteArray × Bool))) fun r8 => (some r8.2.2.2))))) (mix (.node (.node .leaf .leaf) (.node .leaf .leaf)) (ck (0 ≤ ((List.length a0 : Nat) : Int) ∧ ((List.length a0 : Nat) : Int) * (1 : Int) ≤ 140737488355328) (let y1 : Int := ((List.length a1 : Nat) : Int); (ob (Qw.l0 a0 a1 y1 (0 : Int) ([] : List Bool) ([] : List Bool) ([] : (List (ByteArray × Bool))) (List.replicate (Int.toNat ((List.length a0 : Nat) : Int)) false) (List.replicate (Int.toNat ((List.length a0 : Nat) : Int)) false) ([] : List (ByteArray × Bool))) fun r2 => (some r2.2.2.2))))))) (both (ck (0 ≤ ((List.length a0 : Nat) : Int) ∧ ((List.length a0 : Nat) : Int) * (1 : Int) ≤ 140737488355328) (both (ck (0 ≤ ((List.length a0 : Nat) : Int) ∧ ((List.length a0 : Nat) : Int) * (1 : Int) ≤ 140737488355328) (mix (.node .leaf .leaf) (let y1 : Int := ((List.length a1 : Nat) : Int); (ob (Qw.l0 a0 a1 y1 (0 : Int) ([] : List Bool) ([] : List Bool) ([] : (List (ByteArray × Bool))) (List.replicate (Int.toNat ((List.length a0 : Nat) : Int)) false) (List.replicate (Int.toNat ((List.length a0 : Nat) : Int)) false) ([] : List (ByteArray × Bool))) fun r2 => (some r2.2.2.2))))) (mix (.node (.node .leaf .leaf) (.node .leaf .leaf)) (ck (0 ≤ ((List.length a0 : Nat) : Int) ∧ ((List.length a0 : Nat) : Int) * (1 : Int) ≤ 140737488355328) (let y1 : Int := ((List.length a1 : Nat) : Int); (ob (Qw.l0 a0 a1 y1 (0 : Int) ([] : List Bool) ([] : List Bool) ([] : (List (ByteArray × Bool))) (List.replicate (Int.toNat ((List.length a0 : Nat) : Int)) false) (List.replicate (Int.toNat ((List.length a0 : Nat) : Int)) false) ([] : List (ByteArray × Bool))) fun r2 => (some r2.2.2.2))))))) (mix (.node .leaf .leaf) (both (ck (0 ≤ ((List.length a0 : Nat) : Int) ∧ ((List.length a0 : Nat) : Int) * (1 : Int) ≤ 140737488355328) (mix (.node .leaf .leaf) (ck (0 ≤ ((List.length a0 : Nat) : Int) ∧ ((List.length a0 : Nat) : Int) * (1 : Int) ≤ 140737488355328) (let y1 : Int := ((List.length a1 : Nat) : Int); (ob (Qw.l0 a0 a1 y1 (0 : Int) ([] : List Bool) ([] : List Bool) ([] : (List (ByteArray × Bool))) (List.replicate (Int.toNat ((List.length a0 : Nat) : Int)) false) (List.replicate (Int.toNat ((List.length a0 : Nat) : Int)) false) ([] : List (ByteArray × Bool))) fun r2 => (some r2.2.2.2)))))) (both (ck (0 ≤ ((List.length a0 : Nat) : Int) ∧ ((List.length a0 : Nat) : Int) * (1 : Int) ≤ 140737488355328) (mix (.node .leaf .leaf) (ck (0 ≤ ((List.length a0 : Nat) : Int) ∧ ((List.length a0 : Nat) : Int) * (1 : Int) ≤ 140737488355328) (let y1 : Int := ((List.length a1 : Nat) : Int); (ob (Qw.l0 a0 a1 y1 (0 : Int) ([] : List Bool) ([] : List Bool) ([] : (List (ByteArray × Bool))) (List.replicate (Int.toNat ((List.length a0 : Nat) : Int)) false) (List.replicate (Int.toNat ((List.length a0 : Nat) : Int)) false) ([] : List (ByteArray × Bool))) fun r2 => (some r2.2.2.2)))))) (mix (.node .leaf .leaf) (ck (0 ≤ ((List.length a0 : Nat) : Int) ∧ ((List.length a0 : Nat) : Int) * (1 : Int) ≤ 140737488355328) (ck (0 ≤ ((List.length a0 : Nat) : Int) ∧ ((List.length a0 : Nat) : Int) * (1 : Int) ≤ 140737488355328) (let y1 : Int := ((List.length a1 : Nat) : Int); (ob (Qw.l0 a0 a1 y1 (0 : Int) ([] : List Bool) ([] : List Bool) ([] : (List (ByteArray × Bool))) (List.replicate (Int.toNat ((List.length a0 : Nat) : Int)) false) (List.replicate (Int.toNat ((List.length a0 : Nat) : Int)) false) ([] : List (ByteArray × Bool))) fun r2 => (some r2.2.2.2)))))))))))
noncomputable def Qw.fn : TFn := ⟨[(.slice (.pair .str (.pair .str (.pair .str (.pair .str (.pair (.int .i64) (.pair (.slice .str) .str))))))), (.slice (.pair (.int .i64) (.pair .str (.int .i64))))], [(.pair (.slice .bool) (.pair (.slice .bool) (.mp .bool)))], fun x => Qw.f x.1 x.2⟩
noncomputable def Qw.C : Cx := ⟨T, TYt, lkF [], lkO [], lkD [(6, 8, [(0, true), (1, true), (2, true), (3, true), (4, true), (5, true), (6, true), (7, true)], none), (8, 8, [(0, true), (1, true), (2, true), (3, true), (4, true), (5, true), (6, true), (7, true)], none)], lkP [(1, 9, (.take 0 (.take 1 (.take 3 (.take 4 (.alt 2 (.alt 5 (.alt 6 (.take 7 (.alt 8 .done .no)) (.alt 8 (.alt 6 (.take 7 (.swp 2 .done)) .no) .no)) (.alt 6 (.alt 5 (.take 7 (.alt 8 (.swp 3 .done) .no)) (.alt 8 (.alt 5 (.take 7 (.swp 2 (.swp 3 .done))) .no) .no)) (.alt 8 (.alt 5 (.alt 6 (.take 7 (.swp 3 (.swp 2 .done))) .no) (.alt 6 (.alt 5 (.take 7 (.swp 3 (.swp 2 (.swp 3 .done)))) .no) .no)) .no))) (.alt 5 (.alt 2 (.alt 6 (.take 7 (.alt 8 (.swp 4 .done) .no)) (.alt 8 (.alt 6 (.take 7 (.swp 4 (.swp 2 .done))) .no) .no)) (.alt 6 (.alt 2 (.take 7 (.alt 8 (.swp 3 (.swp 4 .done)) .no)) (.alt 8 (.alt 2 (.take 7 (.swp 2 (.swp 3 (.swp 4 .done)))) .no) .no)) (.alt 8 (.alt 2 (.alt 6 (.take 7 (.swp 3 (.swp 2 (.swp 4 .done)))) .no) (.alt 6 (.alt 2 (.take 7 (.swp 3 (.swp 2 (.swp 3 (.swp 4 .done))))) .no) .no)) .no))) (.alt 6 (.alt 2 (.alt 5 (.take 7 (.alt 8 (.swp 4 (.swp 3 .done)) .no)) (.alt 8 (.alt 5 (.take 7 (.swp 4 (.swp 2 (.swp 3 .done)))) .no) .no)) (.alt 5 (.alt 2 (.take 7 (.alt 8 (.swp 4 (.swp 3 (.swp 4 .done))) .no)) (.alt 8 (.alt 2 (.take 7 (.swp 4 (.swp 2 (.swp 3 (.swp 4 .done))))) .no) .no)) (.alt 8 (.alt 2 (.alt 5 (.take 7 (.swp 3 (.swp 2 (.swp 4 (.swp 3 .done))))) .no) (.alt 5 (.alt 2 (.take 7 (.swp 3 (.swp 2 (.swp 4 (.swp 3 (.swp 4 .done)))))) .no) .no)) .no))) (.alt 8 (.alt 2 (.alt 5 (.alt 6 (.take 7 (.swp 4 (.swp 3 (.swp 2 .done)))) .no) (.alt 6 (.alt 5 (.take 7 (.swp 4 (.swp 3 (.swp 2 (.swp 3 .done))))) .no) .no)) (.alt 5 (.alt 2 (.alt 6 (.take 7 (.swp 4 (.swp 3 (.swp 2 (.swp 4 .done))))) .no) (.alt 6 (.alt 2 (.take 7 (.swp 4 (.swp 3 (.swp 2 (.swp 3 (.swp 4 .done)))))) .no) .no)) (.alt 6 (.alt 2 (.alt 5 (.take 7 (.swp 4 (.swp 3 (.swp 2 (.swp 4 (.swp 3 .done)))))) .no) (.alt 5 (.alt 2 (.take 7 (.swp 4 (.swp 3 (.swp 2 (.swp 4 (.swp 3 (.swp 4 .done))))))) .no) .no)) .no))) .no)))))))))], [5, 7], [(65, 4)], false, [], [], lkS [], 51, lkW [], 0⟩
theorem Qw.hC : CxOK Tryz.prog Qw.C := ⟨tabOK, FsOK.nil, OsOK.nil, mixed, (fun t h => by cases h), (Zdy [(65, 4)] (by kernel_rfl)), SsOK.nil, WsOK.nil⟩
noncomputable def Qw.root : Code := Z6 Tryz.f34
theorem Qw.h0 : LsOK Tryz.prog Qw.C Qw.root (lkL [([0, 1, 0, 1, 1], Qw.e0)]) :=
 LsOK.cons Qw.hC (LsOK.nil) (by kernel_rfl) (fun iv x => by kernel_rfl)
theorem Qw.ok : FnOK Tryz.prog 34 Qw.fn := .qq Qw.root Qw.hC Tryz.func34 (lkL [([0, 1, 0, 1, 1], Qw.e0)]) [.cell 4 67] Qw.h0 fun x => by kernel_rfl
noncomputable def Q9.s0 (o0_0 : (List (ByteArray × Int))) (o0_1 : (List (ByteArray × Bool))) (e : Option (ByteArray × Bool)) : Option (((List (ByteArray × Int)) × (List (ByteArray × Bool))) ⊕ ((List (ByteArray × Int)) × (List (ByteArray × Bool)))) :=
 (match e with | none => (some (.inr (o0_0, o0_1))) | some e => (some (.inl ((mset e.1 (-1 : Int) o0_0), o0_1))))
noncomputable def Q9.l0 (es : List (ByteArray × Bool)) (o0_0 : (List (ByteArray × Int))) (o0_1 : (List (ByteArray × Bool))) : Option ((List (ByteArray × Int)) × (List (ByteArray × Bool))) :=
 Zf5 (fun (x : ((List (ByteArray × Int)) × (List (ByteArray × Bool)))) e => Q9.s0 x.1 x.2 e) es (o0_0, o0_1)
noncomputable def Q9.e0 : EntM where
 it := 14
 k := 2
 t := .bool
 pre := []
 inv := [(1, .val (.slice (.pair .str (.pair .str (.pair .str (.pair .str (.pair (.int .i64) (.pair (.slice .str) .str)))))))), (2, .rp (.pair (.slice .bool) (.pair (.slice .bool) (.mp .bool))))]
 car := ⟨[(5, .nm 0 []), (6, .nm 1 [])], [.mapo (.int .i64), .mapo .bool, .dead]⟩
 exits := [(.exit 0, ⟨[(5, .nm 0 []), (6, .nm 1 [])], [.mapo (.int .i64), .mapo .bool, .dead]⟩)]
 step := fun iv x e => Q9.s0 x.1 x.2 e
noncomputable def Q9.s1 (v1_2 : ((List Bool) × ((List Bool) × (List (ByteArray × Bool))))) (v1_21 : (List (ByteArray × (ByteArray × (ByteArray × (ByteArray × (Int × ((List ByteArray) × ByteArray)))))))) (v1_22 : Int) (x1_23 : Int) (o1_0 : (List (ByteArray × Int))) (o1_1 : (List (ByteArray × Bool))) : Option ((Int × ((List (ByteArray × Int)) × (List (ByteArray × Bool)))) ⊕ ((List (ByteArray × Int)) × (List (ByteArray × Bool)))) :=
 (cb (decide (x1_23 < v1_22)) (ck (0 ≤ x1_23 ∧ x1_23 < ((List.length v1_21 : Nat) : Int)) (let y4 : (ByteArray × (ByteArray × (ByteArray × (ByteArray × (Int × ((List ByteArray) × ByteArray)))))) := (rd (ByteArray.empty, (ByteArray.empty, (ByteArray.empty, (ByteArray.empty, ((0 : Int), (([] : (List ByteArray)), ByteArray.empty)))))) v1_21 x1_23); (ck (0 ≤ x1_23 ∧ x1_23 < ((List.length v1_2.2.1 : Nat) : Int)) (cb (rd false v1_2.2.1 x1_23) (ck (InR (x1_23 + (1 : Int))) (some (.inl ((x1_23 + (1 : Int)), o1_0, (mset y4.2.2.2.1 true o1_1))))) (ck (0 ≤ x1_23 ∧ x1_23 < ((List.length v1_2.1 : Nat) : Int)) (cb (rd false v1_2.1 x1_23) (cb (Option.getD (mget y4.2.2.2.1 v1_2.2.2) false) (cb (!(Option.getD (mget y4.2.2.2.1 o1_1) false)) (ck (InR (x1_23 + (1 : Int))) (some (.inl ((x1_23 + (1 : Int)), (mset y4.2.2.2.1 x1_23 o1_0), o1_1)))) (ck (InR (x1_23 + (1 : Int))) (some (.inl ((x1_23 + (1 : Int)), o1_0, o1_1))))) (ck (InR (x1_23 + (1 : Int))) (some (.inl ((x1_23 + (1 : Int)), o1_0, o1_1))))) (ck (InR (x1_23 + (1 : Int))) (some (.inl ((x1_23 + (1 : Int)), o1_0, o1_1)))))))))) (some (.inr (o1_0, o1_1))))
noncomputable def Q9.l1 (v1_2 : ((List Bool) × ((List Bool) × (List (ByteArray × Bool))))) (v1_21 : (List (ByteArray × (ByteArray × (ByteArray × (ByteArray × (Int × ((List ByteArray) × ByteArray)))))))) (v1_22 : Int) (x1_23 : Int) (o1_0 : (List (ByteArray × Int))) (o1_1 : (List (ByteArray × Bool))) : Option ((List (ByteArray × Int)) × (List (ByteArray × Bool))) :=
 Zj (fun (x : (Int × ((List (ByteArray × Int)) × (List (ByteArray × Bool))))) => Q9.s1 v1_2 v1_21 v1_22 x.1 x.2.1 x.2.2) (x1_23, o1_0, o1_1)
noncomputable def Q9.e1 : Ent where
 pre := []
 inv := [(2, .rp (.pair (.slice .bool) (.pair (.slice .bool) (.mp .bool)))), (21, .val (.slice (.pair .str (.pair .str (.pair .str (.pair .str (.pair (.int .i64) (.pair (.slice .str) .str)))))))), (22, .val (.int .i64))]
 car := ⟨[(5, .nm 0 []), (6, .nm 1 []), (23, .val (.int .i64))], [.mapo (.int .i64), .mapo .bool, .dead]⟩
 exits := [(.exit 2, ⟨[(5, .nm 0 [])], [.mapo (.int .i64), .mapo .bool, .dead]⟩)]
 step := fun iv x => Q9.s1 iv.1 iv.2.1 iv.2.2 x.1 x.2.1 x.2.2
noncomputable def Q9.f (a0 : ((List Bool) × ((List Bool) × (List (ByteArray × Bool))))) (a1 : (List (ByteArray × (ByteArray × (ByteArray × (ByteArray × (Int × ((List ByteArray) × ByteArray)))))))) : Option (List (ByteArray × Int)) :=
 (ob (Q9.l0 a0.2.2 ([] : List (ByteArray × Int)) ([] : List (ByteArray × Bool))) fun r1 => (let y2 : Int := ((List.length a1 : Nat) : Int); (ob (Q9.l1 a0 a1 y2 (0 : Int) r1.1 r1.2) fun r5 => (some r5.1))))
noncomputable def Q9.fn : TFn := ⟨[(.pair (.slice .bool) (.pair (.slice .bool) (.mp .bool))), (.slice (.pair .str (.pair .str (.pair .str (.pair .str (.pair (.int .i64) (.pair (.slice .str) .str)))))))], [(.mp (.int .i64))], fun x => Q9.f x.1 x.2⟩
noncomputable def Q9.C : Cx := ⟨T, TYt, lkF [], lkO [], lkD [], lkP [], [2, 9], [(65, 4), (69, 3)], false, [], [], lkS [], 63, lkW [], 0⟩
theorem Q9.hC : CxOK Tryz.prog Q9.C := ⟨tabOK, FsOK.nil, OsOK.nil, mixed, (fun t h => by cases h), (Zdy [(65, 4), (69, 3)] (by kernel_rfl)), SsOK.nil, WsOK.nil⟩
noncomputable def Q9.root : Code := Z6 Tryz.f35
theorem Q9.h0 : LsOK Tryz.prog Q9.C Q9.root (lkL [([0, 1, 0, 1, 1], Q9.e0)]) :=
 LsOK.consM Q9.hC (LsOK.nil) (by kernel_rfl) (fun g iv x e => by cases e <;> kernel_rfl)
theorem Q9.h1 : LsOK Tryz.prog Q9.C Q9.root (lkL [([0, 1, 0, 1, 1, 1], Q9.e1), ([0, 1, 0, 1, 1], Q9.e0)]) :=
 LsOK.cons Q9.hC (Q9.h0) (by kernel_rfl) (fun iv x => by kernel_rfl)
theorem Q9.ok : FnOK Tryz.prog 35 Q9.fn := .qq Q9.root Q9.hC Tryz.func35 (lkL [([0, 1, 0, 1, 1, 1], Q9.e1), ([0, 1, 0, 1, 1], Q9.e0)]) [.tmp 4] Q9.h1 fun x => by kernel_rfl
noncomputable def Q29.f (a0 : ByteArray) (a1 : (List (ByteArray × Bool))) (a2 : (List (ByteArray × Bool))) : Option Bool :=
 (cb (Option.getD (mget a0 a1) false) (some (!(Option.getD (mget a0 a2) false))) (some false))
noncomputable def Q29.fn : TFn := ⟨[.str, (.ref (.mp .bool)), (.ref (.mp .bool))], [.bool], fun x => Q29.f x.1 x.2.1 x.2.2⟩
noncomputable def Q29.C : Cx := ⟨T, TYt, lkF [], lkO [], lkD [], lkP [], [], [(65, 4)], false, [], [], lkS [], 14, lkW [], 0⟩
theorem Q29.hC : CxOK Tryz.prog Q29.C := ⟨tabOK, FsOK.nil, OsOK.nil, mixed, (fun t h => by cases h), (Zdy [(65, 4)] (by kernel_rfl)), SsOK.nil, WsOK.nil⟩
noncomputable def Q29.root : Code := Z6 Tryz.f37
theorem Q29.ok : FnOK Tryz.prog 37 Q29.fn := .qq Q29.root Q29.hC Tryz.func37 (lkL []) [.tmp 4] LsOK.nil fun x => by kernel_rfl
noncomputable def Q4.s0 (v0_0 : (List ByteArray)) (v0_1 : ((List (ByteArray × Bool)) × (List (ByteArray × Bool)))) (v0_7 : Int) (x0_8 : Int) : Option (Int ⊕ (Int ⊕ Unit)) :=
 (cb (decide (x0_8 < v0_7)) (ck (0 ≤ x0_8 ∧ x0_8 < ((List.length v0_0 : Nat) : Int)) (let y4 : ByteArray := (rd ByteArray.empty v0_0 x0_8); (ob (Q29.f y4 v0_1.1 v0_1.2) fun r5 => (cb r5 (some (.inr (.inl x0_8))) (ck (InR (x0_8 + (1 : Int))) (some (.inl (x0_8 + (1 : Int))))))))) (some (.inr (.inr ()))))
noncomputable def Q4.l0 (v0_0 : (List ByteArray)) (v0_1 : ((List (ByteArray × Bool)) × (List (ByteArray × Bool)))) (v0_7 : Int) (x0_8 : Int) : Option (Int ⊕ Unit) :=
 Zj (fun (x : Int) => Q4.s0 v0_0 v0_1 v0_7 x) x0_8
noncomputable def Q4.e0 : Ent where
 pre := []
 inv := [(0, .val (.slice .str)), (1, .val (.clo 37 (.pair (.ref (.mp .bool)) (.ref (.mp .bool))))), (7, .val (.int .i64))]
 car := ⟨[(8, .val (.int .i64))], []⟩
 exits := [(.ret, ⟨[(4, .val (.int .i64))], []⟩), (.exit 0, ⟨[], []⟩)]
 step := fun iv x => Q4.s0 iv.1 iv.2.1 iv.2.2 x
noncomputable def Q4.f (a0 : (List ByteArray)) (a1 : ((List (ByteArray × Bool)) × (List (ByteArray × Bool)))) : Option Int :=
 (let y1 : Int := ((List.length a0 : Nat) : Int); (ob (Q4.l0 a0 a1 y1 (0 : Int)) fun r6 => (Z1g r6 (fun a7 => (some a7)) (fun b8 => (some (-1 : Int))))))
noncomputable def Q4.fn : TFn := ⟨[(.slice .str), (.clo 37 (.pair (.ref (.mp .bool)) (.ref (.mp .bool))))], [(.int .i64)], fun x => Q4.f x.1 x.2⟩
noncomputable def Q4.C : Cx := cxC [((37, [0]), Q29.fn)] 19
theorem Q4.hC : CxOK Tryz.prog Q4.C := cxq (FsOK.cons Q29.ok (FsOK.nil))
noncomputable def Q4.root : Code := Z6 Tryz.f66
theorem Q4.h0 : LsOK Tryz.prog Q4.C Q4.root (lkL [([0, 1, 0, 1], Q4.e0)]) :=
 LsOK.cons Q4.hC (LsOK.nil) (by kernel_rfl) (fun iv x => by kernel_rfl)
theorem Q4.ok : FnOK Tryz.prog 66 Q4.fn := .qq Q4.root Q4.hC Tryz.func66 (lkL [([0, 1, 0, 1], Q4.e0)]) [.tmp 4] Q4.h0 fun x => by kernel_rfl
noncomputable def Qg.f (a0 : (List ByteArray)) (a1 : ((List (ByteArray × Bool)) × (List (ByteArray × Bool)))) : Option Bool :=
 (ob (Q4.f a0 a1) fun r1 => (some (decide ((0 : Int) ≤ r1))))
noncomputable def Qg.fn : TFn := ⟨[(.slice .str), (.clo 37 (.pair (.ref (.mp .bool)) (.ref (.mp .bool))))], [.bool], fun x => Qg.f x.1 x.2⟩
noncomputable def Qg.C : Cx := cxC [((66, [0, 39]), Q4.fn)] 9
theorem Qg.hC : CxOK Tryz.prog Qg.C := cxq (FsOK.cons Q4.ok (FsOK.nil))
noncomputable def Qg.root : Code := Z6 Tryz.f36
theorem Qg.ok : FnOK Tryz.prog 36 Qg.fn := .qq Qg.root Qg.hC Tryz.func36 (lkL []) [.tmp 4] LsOK.nil fun x => by kernel_rfl
noncomputable def Q16.s0 (v0_5 : ((List Bool) × ((List Bool) × (List (ByteArray × Bool))))) (v0_6 : (List (ByteArray × Int))) (v0_25 : (List (ByteArray × (ByteArray × (ByteArray × (ByteArray × (Int × ((List ByteArray) × ByteArray)))))))) (v0_26 : Int) (x0_27 : Int) (o0_1 : (List Bool)) (o0_2 : (List (ByteArray × Bool))) (o0_3 : (List (ByteArray × Bool))) : Option ((Int × ((List Bool) × ((List (ByteArray × Bool)) × (List (ByteArray × Bool))))) ⊕ ((List Bool) × ((List (ByteArray × Bool)) × (List (ByteArray × Bool))))) :=
 (cb (decide (x0_27 < v0_26)) (ck (0 ≤ x0_27 ∧ x0_27 < ((List.length v0_25 : Nat) : Int)) (let y10 : (ByteArray × (ByteArray × (ByteArray × (ByteArray × (Int × ((List ByteArray) × ByteArray)))))) := (rd (ByteArray.empty, (ByteArray.empty, (ByteArray.empty, (ByteArray.empty, ((0 : Int), (([] : (List ByteArray)), ByteArray.empty)))))) v0_25 x0_27); (let y11 : Int := (Option.getD (mget y10.2.2.2.1 v0_6) (0 : Int)); (ck (0 ≤ x0_27 ∧ x0_27 < ((List.length v0_5.2.1 : Nat) : Int)) (cb (rd false v0_5.2.1 x0_27) (ck (0 ≤ x0_27 ∧ x0_27 < ((List.length o0_1 : Nat) : Int)) (ck ((Int.toNat x0_27) < List.length o0_1) (ck (0 ≤ x0_27 ∧ x0_27 < ((List.length (List.set o0_1 (Int.toNat x0_27) true) : Nat) : Int)) (ck ((Int.toNat x0_27) < List.length (List.set o0_1 (Int.toNat x0_27) true)) (cb (List.getD (List.set o0_1 (Int.toNat x0_27) true) (Int.toNat x0_27) false) (ck (InR (x0_27 + (1 : Int))) (some (.inl ((x0_27 + (1 : Int)), (List.set o0_1 (Int.toNat x0_27) true), (mset y10.2.2.1 true o0_2), o0_3)))) (ck (InR (x0_27 + (1 : Int))) (some (.inl ((x0_27 + (1 : Int)), (List.set o0_1 (Int.toNat x0_27) true), o0_2, (mset y10.2.2.1 true o0_3)))))))))) (cb (Option.isSome (mget y10.2.2.2.1 v0_6)) (ck (0 ≤ x0_27 ∧ x0_27 < ((List.length v0_5.1 : Nat) : Int)) (cb (!(rd false v0_5.1 x0_27)) (cb (decide (y11 < x0_27)) (ck (0 ≤ x0_27 ∧ x0_27 < ((List.length o0_1 : Nat) : Int)) (ck ((Int.toNat x0_27) < List.length o0_1) (ck (0 ≤ x0_27 ∧ x0_27 < ((List.length (List.set o0_1 (Int.toNat x0_27) true) : Nat) : Int)) (ck ((Int.toNat x0_27) < List.length (List.set o0_1 (Int.toNat x0_27) true)) (cb (List.getD (List.set o0_1 (Int.toNat x0_27) true) (Int.toNat x0_27) false) (ck (InR (x0_27 + (1 : Int))) (some (.inl ((x0_27 + (1 : Int)), (List.set o0_1 (Int.toNat x0_27) true), (mset y10.2.2.1 true o0_2), o0_3)))) (ck (InR (x0_27 + (1 : Int))) (some (.inl ((x0_27 + (1 : Int)), (List.set o0_1 (Int.toNat x0_27) true), o0_2, (mset y10.2.2.1 true o0_3)))))))))) (ob (Qg.f y10.2.2.2.2.2.1 (o0_2, o0_3)) fun r12 => (ck (0 ≤ x0_27 ∧ x0_27 < ((List.length o0_1 : Nat) : Int)) (ck ((Int.toNat x0_27) < List.length o0_1) (ck (0 ≤ x0_27 ∧ x0_27 < ((List.length (List.set o0_1 (Int.toNat x0_27) r12) : Nat) : Int)) (ck ((Int.toNat x0_27) < List.length (List.set o0_1 (Int.toNat x0_27) r12)) (cb (List.getD (List.set o0_1 (Int.toNat x0_27) r12) (Int.toNat x0_27) false) (ck (InR (x0_27 + (1 : Int))) (some (.inl ((x0_27 + (1 : Int)), (List.set o0_1 (Int.toNat x0_27) r12), (mset y10.2.2.1 true o0_2), o0_3)))) (ck (InR (x0_27 + (1 : Int))) (some (.inl ((x0_27 + (1 : Int)), (List.set o0_1 (Int.toNat x0_27) r12), o0_2, (mset y10.2.2.1 true o0_3)))))))))))) (ob (Qg.f y10.2.2.2.2.2.1 (o0_2, o0_3)) fun r13 => (ck (0 ≤ x0_27 ∧ x0_27 < ((List.length o0_1 : Nat) : Int)) (ck ((Int.toNat x0_27) < List.length o0_1) (ck (0 ≤ x0_27 ∧ x0_27 < ((List.length (List.set o0_1 (Int.toNat x0_27) r13) : Nat) : Int)) (ck ((Int.toNat x0_27) < List.length (List.set o0_1 (Int.toNat x0_27) r13)) (cb (List.getD (List.set o0_1 (Int.toNat x0_27) r13) (Int.toNat x0_27) false) (ck (InR (x0_27 + (1 : Int))) (some (.inl ((x0_27 + (1 : Int)), (List.set o0_1 (Int.toNat x0_27) r13), (mset y10.2.2.1 true o0_2), o0_3)))) (ck (InR (x0_27 + (1 : Int))) (some (.inl ((x0_27 + (1 : Int)), (List.set o0_1 (Int.toNat x0_27) r13), o0_2, (mset y10.2.2.1 true o0_3))))))))))))) (ob (Qg.f y10.2.2.2.2.2.1 (o0_2, o0_3)) fun r14 => (ck (0 ≤ x0_27 ∧ x0_27 < ((List.length o0_1 : Nat) : Int)) (ck ((Int.toNat x0_27) < List.length o0_1) (ck (0 ≤ x0_27 ∧ x0_27 < ((List.length (List.set o0_1 (Int.toNat x0_27) r14) : Nat) : Int)) (ck ((Int.toNat x0_27) < List.length (List.set o0_1 (Int.toNat x0_27) r14)) (cb (List.getD (List.set o0_1 (Int.toNat x0_27) r14) (Int.toNat x0_27) false) (ck (InR (x0_27 + (1 : Int))) (some (.inl ((x0_27 + (1 : Int)), (List.set o0_1 (Int.toNat x0_27) r14), (mset y10.2.2.1 true o0_2), o0_3)))) (ck (InR (x0_27 + (1 : Int))) (some (.inl ((x0_27 + (1 : Int)), (List.set o0_1 (Int.toNat x0_27) r14), o0_2, (mset y10.2.2.1 true o0_3))))))))))))))))) (some (.inr (o0_1, o0_2, o0_3))))
noncomputable def Q16.l0 (v0_5 : ((List Bool) × ((List Bool) × (List (ByteArray × Bool))))) (v0_6 : (List (ByteArray × Int))) (v0_25 : (List (ByteArray × (ByteArray × (ByteArray × (ByteArray × (Int × ((List ByteArray) × ByteArray)))))))) (v0_26 : Int) (x0_27 : Int) (o0_1 : (List Bool)) (o0_2 : (List (ByteArray × Bool))) (o0_3 : (List (ByteArray × Bool))) : Option ((List Bool) × ((List (ByteArray × Bool)) × (List (ByteArray × Bool)))) :=
 Zj (fun (x : (Int × ((List Bool) × ((List (ByteArray × Bool)) × (List (ByteArray × Bool)))))) => Q16.s0 v0_5 v0_6 v0_25 v0_26 x.1 x.2.1 x.2.2.1 x.2.2.2) (x0_27, o0_1, o0_2, o0_3)
noncomputable def Q16.e0 : Ent where
 pre := []
 inv := [(5, .rp (.pair (.slice .bool) (.pair (.slice .bool) (.mp .bool)))), (6, .val (.mp (.int .i64))), (25, .val (.slice (.pair .str (.pair .str (.pair .str (.pair .str (.pair (.int .i64) (.pair (.slice .str) .str)))))))), (26, .val (.int .i64))]
 car := ⟨[(7, .own 1 1), (8, .ptr 4 1), (9, .ptr 5 1), (27, .val (.int .i64))], [.dead, .row 4 .bool, .mapo .bool, .mapo .bool, .box 65 [.nm 2 []], .box 65 [.nm 3 []]]⟩
 exits := [(.exit 0, ⟨[(7, .own 1 1)], [.dead, .row 4 .bool, .mapo .bool, .mapo .bool, .box 65 [.nm 2 []], .box 65 [.nm 3 []]]⟩)]
 step := fun iv x => Q16.s0 iv.1 iv.2.1 iv.2.2.1 iv.2.2.2 x.1 x.2.1 x.2.2.1 x.2.2.2
noncomputable def Q16.f (a0 : (List (ByteArray × (ByteArray × (ByteArray × (ByteArray × (Int × ((List ByteArray) × ByteArray)))))))) (a1 : (List (Int × (ByteArray × Int)))) : Option (List Bool) :=
 (ob (Qw.f a0 a1) fun r1 => (ob (Q9.f r1 a0) fun r2 => (let y3 : Int := ((List.length a0 : Nat) : Int); (ck (0 ≤ y3 ∧ y3 * (1 : Int) ≤ 140737488355328) (let y4 : Int := ((List.length a0 : Nat) : Int); (ob (Q16.l0 r1 r2 a0 y4 (0 : Int) (List.replicate (Int.toNat y3) false) ([] : List (ByteArray × Bool)) ([] : List (ByteArray × Bool))) fun r15 => (some r15.1)))))))
noncomputable def Q16.fn : TFn := ⟨[(.slice (.pair .str (.pair .str (.pair .str (.pair .str (.pair (.int .i64) (.pair (.slice .str) .str))))))), (.slice (.pair (.int .i64) (.pair .str (.int .i64))))], [(.slice .bool)], fun x => Q16.f x.1 x.2⟩
noncomputable def Q16.C : Cx := ⟨T, TYt, lkF [((34, [0, 0]), Qw.fn), ((35, [0, 0]), Q9.fn), ((36, [0, 39]), Qg.fn)], lkO [], lkD [], lkP [], [5, 11], [(65, 4), (69, 3)], false, [], [], lkS [], 81, lkW [], 0⟩
theorem Q16.hC : CxOK Tryz.prog Q16.C := ⟨tabOK, FsOK.cons Qw.ok (FsOK.cons Q9.ok (FsOK.cons Qg.ok (FsOK.nil))), OsOK.nil, mixed, (fun t h => by cases h), (Zdy [(65, 4), (69, 3)] (by kernel_rfl)), SsOK.nil, WsOK.nil⟩
noncomputable def Q16.root : Code := Z6 Tryz.f19
theorem Q16.h0 : LsOK Tryz.prog Q16.C Q16.root (lkL [([0, 1, 0, 1, 1, 1, 1, 1], Q16.e0)]) :=
 LsOK.cons Q16.hC (LsOK.nil) (by kernel_rfl) (fun iv x => by kernel_rfl)
theorem Q16.ok : FnOK Tryz.prog 19 Q16.fn := .qq Q16.root Q16.hC Tryz.func19 (lkL [([0, 1, 0, 1, 1, 1, 1, 1], Q16.e0)]) [.tmp 4] Q16.h0 fun x => by kernel_rfl
noncomputable def Q2k.f (a0 : (ByteArray × (ByteArray × ((List ByteArray) × (Int × Int))))) (a1 : ByteArray) : Option Int :=
 (ob (Q32.f a0.1 a1) fun r1 => (some r1))
noncomputable def Q2k.fn : TFn := ⟨[(.pair .str (.pair .str (.pair (.slice .str) (.pair (.int .i64) (.int .i64))))), .str], [(.int .i64)], fun x => Q2k.f x.1 x.2⟩
noncomputable def Q2k.C : Cx := ⟨T, TYt, lkF [((69, [0, 0]), Q32.fn)], lkO [], lkD [], lkP [], [2], [], false, [], [], lkS [], 9, lkW [], 0⟩
theorem Q2k.hC : CxOK Tryz.prog Q2k.C := cxq (FsOK.cons Q32.ok (FsOK.nil))
noncomputable def Q2k.root : Code := Z6 Tryz.f68
theorem Q2k.ok : FnOK Tryz.prog 68 Q2k.fn := .qq Q2k.root Q2k.hC Tryz.func68 (lkL []) [.tmp 4] LsOK.nil fun x => by kernel_rfl
noncomputable def Q0.s0 (v0_0 : (List (ByteArray × (ByteArray × ((List ByteArray) × (Int × Int)))))) (v0_1 : ByteArray) (x0_9 : Int) (x0_10 : Int) : Option ((Int × Int) ⊕ Int) :=
 (cb (decide (x0_9 < x0_10)) (ck (InR (x0_9 + x0_10)) (let y7 : Int := (IntKind.u64.wrap (x0_9 + x0_10)); (let y8 : Int := (Int.fdiv y7 (2 ^ min (Int.toNat (1 : Int)) (IntKind.bits .u64))); (ck (0 ≤ (IntKind.i64.wrap y8) ∧ (IntKind.i64.wrap y8) < ((List.length v0_0 : Nat) : Int)) (let y9 : (ByteArray × (ByteArray × ((List ByteArray) × (Int × Int)))) := (rd (ByteArray.empty, (ByteArray.empty, (([] : (List ByteArray)), ((0 : Int), (0 : Int))))) v0_0 (IntKind.i64.wrap y8)); (ob (Q2k.f y9 v0_1) fun r10 => (cb (decide (r10 < (0 : Int))) (ck (InR ((IntKind.i64.wrap y8) + (1 : Int))) (let y11 : Int := ((IntKind.i64.wrap y8) + (1 : Int)); (some (.inl (y11, x0_10))))) (some (.inl (x0_9, (IntKind.i64.wrap y8))))))))))) (some (.inr x0_9)))
noncomputable def Q0.l0 (v0_0 : (List (ByteArray × (ByteArray × ((List ByteArray) × (Int × Int)))))) (v0_1 : ByteArray) (x0_9 : Int) (x0_10 : Int) : Option Int :=
 Zj (fun (x : (Int × Int)) => Q0.s0 v0_0 v0_1 x.1 x.2) (x0_9, x0_10)
noncomputable def Q0.e0 : Ent where
 pre := []
 inv := [(0, .val (.slice (.pair .str (.pair .str (.pair (.slice .str) (.pair (.int .i64) (.int .i64))))))), (1, .val .str), (2, .fn 68), (8, .val (.int .i64))]
 car := ⟨[(9, .val (.int .i64)), (10, .val (.int .i64))], []⟩
 exits := [(.exit 0, ⟨[(9, .val (.int .i64))], []⟩)]
 step := fun iv x => Q0.s0 iv.1 iv.2.1 x.1 x.2
noncomputable def Q0.f (a0 : (List (ByteArray × (ByteArray × ((List ByteArray) × (Int × Int)))))) (a1 : ByteArray) (a2 : Unit) : Option (Int × Bool) :=
 (let y1 : Int := ((List.length a0 : Nat) : Int); (ob (Q0.l0 a0 a1 (0 : Int) y1) fun r12 => (cb (decide (r12 < y1)) (ck (0 ≤ r12 ∧ r12 < ((List.length a0 : Nat) : Int)) (let y13 : (ByteArray × (ByteArray × ((List ByteArray) × (Int × Int)))) := (rd (ByteArray.empty, (ByteArray.empty, (([] : (List ByteArray)), ((0 : Int), (0 : Int))))) a0 r12); (ob (Q2k.f y13 a1) fun r14 => (some (r12, (decide (r14 = (0 : Int)))))))) (some (r12, false)))))
noncomputable def Q0.fn : TFn := ⟨[(.slice (.pair .str (.pair .str (.pair (.slice .str) (.pair (.int .i64) (.int .i64)))))), .str, (.fnc 68)], [(.int .i64), .bool], fun x => Q0.f x.1 x.2.1 x.2.2⟩
noncomputable def Q0.C : Cx := cxC [((68, [0, 0]), Q2k.fn)] 49
theorem Q0.hC : CxOK Tryz.prog Q0.C := cxq (FsOK.cons Q2k.ok (FsOK.nil))
noncomputable def Q0.root : Code := Z6 Tryz.f67
theorem Q0.h0 : LsOK Tryz.prog Q0.C Q0.root (lkL [([0, 0, 1, 1, 1], Q0.e0)]) :=
 LsOK.cons Q0.hC (LsOK.nil) (by kernel_rfl) (fun iv x => by kernel_rfl)
theorem Q0.ok : FnOK Tryz.prog 67 Q0.fn := .qq Q0.root Q0.hC Tryz.func67 (lkL [([0, 0, 1, 1, 1], Q0.e0)]) [.tmp 6, .tmp 7] Q0.h0 fun x => by kernel_rfl
noncomputable def Q2f.f (a0 : (List (ByteArray × (ByteArray × ((List ByteArray) × (Int × Int)))))) (a1 : ByteArray) : Option ((ByteArray × (ByteArray × ((List ByteArray) × (Int × Int)))) × Bool) :=
 (ob (Q0.f a0 a1 ()) fun r1 => (cb (!r1.2) (some ((bs_, (bs_, (([] : List ByteArray), ((0 : Int), (0 : Int))))), false)) (ck (0 ≤ r1.1 ∧ r1.1 < ((List.length a0 : Nat) : Int)) (let y2 : (ByteArray × (ByteArray × ((List ByteArray) × (Int × Int)))) := (rd (ByteArray.empty, (ByteArray.empty, (([] : (List ByteArray)), ((0 : Int), (0 : Int))))) a0 r1.1); (some (y2, true))))))
noncomputable def Q2f.fn : TFn := ⟨[(.slice (.pair .str (.pair .str (.pair (.slice .str) (.pair (.int .i64) (.int .i64)))))), .str], [(.pair .str (.pair .str (.pair (.slice .str) (.pair (.int .i64) (.int .i64))))), .bool], fun x => Q2f.f x.1 x.2⟩
noncomputable def Q2f.C : Cx := cxC [((67, [0, 0, 70]), Q0.fn)] 21
theorem Q2f.hC : CxOK Tryz.prog Q2f.C := cxq (FsOK.cons Q0.ok (FsOK.nil))
noncomputable def Q2f.root : Code := Z6 Tryz.f39
theorem Q2f.ok : FnOK Tryz.prog 39 Q2f.fn := .qq Q2f.root Q2f.hC Tryz.func39 (lkL []) [.cell 4 40, .tmp 5] LsOK.nil fun x => by kernel_rfl
noncomputable def Q2m.f (a0 : (ByteArray × (ByteArray × (ByteArray × (ByteArray × (Int × ((List ByteArray) × ByteArray))))))) : Option ByteArray :=
 (ob (Q30.f a0.2.2.2.2.1) fun r1 => (ck ((List.length ([a0.1, a0.2.1, a0.2.2.1, a0.2.2.2.1, r1] : List ByteArray) + List.length a0.2.2.2.2.2.1) * 16 ≤ 140737488355328) (ob (Q2z.f (([a0.1, a0.2.1, a0.2.2.1, a0.2.2.2.1, r1] : List ByteArray) ++ a0.2.2.2.2.2.1) Q37) fun r2 => (some r2))))
noncomputable def Q2m.fn : TFn := ⟨[(.pair .str (.pair .str (.pair .str (.pair .str (.pair (.int .i64) (.pair (.slice .str) .str))))))], [.str], fun x => Q2m.f x⟩
noncomputable def Q2m.C : Cx := ⟨T, TYt, lkF [((89, [0, 0]), Q2z.fn), ((90, [0]), Q30.fn)], lkO [], lkD [(1, 14, [(0, true), (1, true), (2, true), (3, true), (4, true), (5, true), (6, true), (7, true), (8, true), (9, true), (12, true), (13, true), (10, false), (11, false)], none)], lkP [], [1], [], false, [], [], lkS [], 19, lkW [], 0⟩
theorem Q2m.hC : CxOK Tryz.prog Q2m.C := cxq (FsOK.cons Q2z.ok (FsOK.cons Q30.ok (FsOK.nil)))
noncomputable def Q2m.root : Code := Z6 Tryz.f71
theorem Q2m.ok : FnOK Tryz.prog 71 Q2m.fn := .qq Q2m.root Q2m.hC Tryz.func71 (lkL []) [.tmp 2] LsOK.nil fun x => by kernel_rfl
noncomputable def Qq.s0 (v0_8 : (List UInt8)) (v0_9 : Int) (x0_3 : Int) (x0_10 : Int) : Option ((Int × Int) ⊕ Int) :=
 (cb (decide (x0_10 < v0_9)) (ck (0 ≤ x0_10 ∧ x0_10 < ((List.length v0_8 : Nat) : Int)) (let y6 : UInt8 := (rd (0 : UInt8) v0_8 x0_10); (let y7 : Int := (IntKind.u64.wrap ((UInt8.toNat y6 : Nat) : Int)); (let y8 : Int := (IntKind.u64.wrap ((BitVec.toNat (BitVec.ofInt (IntKind.bits .u64) x0_3 ^^^ BitVec.ofInt (IntKind.bits .u64) y7) : Nat) : Int)); (let y9 : Int := (IntKind.u64.wrap (y8 * (1099511628211 : Int))); (ck (InR (x0_10 + (1 : Int))) (some (.inl (y9, (x0_10 + (1 : Int))))))))))) (some (.inr x0_3)))
noncomputable def Qq.l0 (v0_8 : (List UInt8)) (v0_9 : Int) (x0_3 : Int) (x0_10 : Int) : Option Int :=
 Zj (fun (x : (Int × Int)) => Qq.s0 v0_8 v0_9 x.1 x.2) (x0_3, x0_10)
noncomputable def Qq.e0 : Ent where
 pre := []
 inv := [(8, .val (.slice .byte)), (9, .val (.int .i64))]
 car := ⟨[(3, .val (.int .u64)), (10, .val (.int .i64))], []⟩
 exits := [(.exit 0, ⟨[(3, .val (.int .u64))], []⟩)]
 step := fun iv x => Qq.s0 iv.1 iv.2 x.1 x.2
noncomputable def Qq.s1 (v1_22 : Int) (x1_3 : Int) (x1_23 : Int) (o1_0 : (List UInt8)) : Option ((Int × (Int × (List UInt8))) ⊕ (List UInt8)) :=
 (cb (decide (x1_23 < v1_22)) (ck (InR ((15 : Int) - x1_23)) (let y15 : Int := (IntKind.u64.wrap ((BitVec.toNat (BitVec.ofInt (IntKind.bits .u64) x1_3 &&& BitVec.ofInt (IntKind.bits .u64) (15 : Int)) : Nat) : Int)); (ck (0 ≤ y15 ∧ y15 < ((ByteArray.size Qi : Nat) : Int)) (let y16 : UInt8 := (bt Qi y15); (ck (0 ≤ ((15 : Int) - x1_23) ∧ ((15 : Int) - x1_23) < ((List.length o1_0 : Nat) : Int)) (ck ((Int.toNat ((15 : Int) - x1_23)) < List.length o1_0) (let y17 : Int := (Int.fdiv x1_3 (2 ^ min (Int.toNat (4 : Int)) (IntKind.bits .u64))); (ck (InR (x1_23 + (1 : Int))) (some (.inl (y17, (x1_23 + (1 : Int)), (List.set o1_0 (Int.toNat ((15 : Int) - x1_23)) y16)))))))))))) (some (.inr o1_0)))
noncomputable def Qq.l1 (v1_22 : Int) (x1_3 : Int) (x1_23 : Int) (o1_0 : (List UInt8)) : Option (List UInt8) :=
 Zj (fun (x : (Int × (Int × (List UInt8)))) => Qq.s1 v1_22 x.1 x.2.1 x.2.2) (x1_3, x1_23, o1_0)
noncomputable def Qq.e1 : Ent where
 pre := []
 inv := [(22, .val (.int .i64))]
 car := ⟨[(3, .val (.int .u64)), (6, .own 0 1), (23, .val (.int .i64))], [.row 5 .byte]⟩
 exits := [(.exit 2, ⟨[(6, .own 0 1)], [.row 5 .byte]⟩)]
 step := fun iv x => Qq.s1 iv x.1 x.2.1 x.2.2
noncomputable def Qq.f (a0 : (List UInt8)) : Option ByteArray :=
 (let y1 : Int := ((List.length a0 : Nat) : Int); (ob (Qq.l0 a0 y1 (14695981039346656037 : Int) (0 : Int)) fun r10 => (ck (0 ≤ (16 : Int) ∧ (16 : Int) * (1 : Int) ≤ 140737488355328) (let y11 : Int := ((List.length (List.replicate (Int.toNat (16 : Int)) (0 : UInt8)) : Nat) : Int); (ob (Qq.l1 y11 r10 (0 : Int) (List.replicate (Int.toNat (16 : Int)) (0 : UInt8))) fun r18 => (some (bstr r18)))))))
noncomputable def Qq.fn : TFn := ⟨[(.slice .byte)], [.str], fun x => Qq.f x⟩
noncomputable def Qq.C : Cx := cxC [] 38
theorem Qq.hC : CxOK Tryz.prog Qq.C := cxq FsOK.nil
noncomputable def Qq.root : Code := Z6 Tryz.f70
theorem Qq.h0 : LsOK Tryz.prog Qq.C Qq.root (lkL [([0, 1, 0, 1, 1], Qq.e0)]) :=
 LsOK.cons Qq.hC (LsOK.nil) (by kernel_rfl) (fun iv x => by kernel_rfl)
theorem Qq.h1 : LsOK Tryz.prog Qq.C Qq.root (lkL [([0, 1, 0, 1, 1, 1, 1], Qq.e1), ([0, 1, 0, 1, 1], Qq.e0)]) :=
 LsOK.cons Qq.hC (Qq.h0) (by kernel_rfl) (fun iv x => by kernel_rfl)
theorem Qq.ok : FnOK Tryz.prog 70 Qq.fn := .qq Qq.root Qq.hC Tryz.func70 (lkL [([0, 1, 0, 1, 1, 1, 1], Qq.e1), ([0, 1, 0, 1, 1], Qq.e0)]) [.tmp 2] Qq.h1 fun x => by kernel_rfl
noncomputable def Q23.f (a0 : ByteArray) (a1 : (ByteArray × (ByteArray × (ByteArray × (ByteArray × (Int × ((List ByteArray) × ByteArray))))))) : Option ByteArray :=
 (ck (((ByteArray.size a0 + ByteArray.size Q34 : Nat) : Int) ≤ 9223372036854775807) (ob (Q2m.f a1) fun r1 => (ck (((ByteArray.size (a0 ++ Q34) + ByteArray.size r1 : Nat) : Int) ≤ 9223372036854775807) (ck (((ByteArray.size ((a0 ++ Q34) ++ r1) + ByteArray.size Q34 : Nat) : Int) ≤ 9223372036854775807) (let y2 : ByteArray := (((a0 ++ Q34) ++ r1) ++ Q34); (ck (((ByteArray.size y2 + ByteArray.size a0 : Nat) : Int) ≤ 9223372036854775807) (let y3 : (List UInt8) := (Array.toList (ByteArray.data (y2 ++ a0))); (ob (Qq.f y3) fun r4 => (some r4)))))))))
noncomputable def Q23.fn : TFn := ⟨[.str, (.pair .str (.pair .str (.pair .str (.pair .str (.pair (.int .i64) (.pair (.slice .str) .str))))))], [.str], fun x => Q23.f x.1 x.2⟩
noncomputable def Q23.C : Cx := ⟨T, TYt, lkF [((70, [0]), Qq.fn), ((71, [0]), Q2m.fn)], lkO [], lkD [], lkP [], [3], [], false, [], [], lkS [], 15, lkW [], 0⟩
theorem Q23.hC : CxOK Tryz.prog Q23.C := cxq (FsOK.cons Qq.ok (FsOK.cons Q2m.ok (FsOK.nil)))
noncomputable def Q23.root : Code := Z6 Tryz.f40
theorem Q23.ok : FnOK Tryz.prog 40 Q23.fn := .qq Q23.root Q23.hC Tryz.func40 (lkL []) [.tmp 4] LsOK.nil fun x => by kernel_rfl
noncomputable def Q2s.f (a0 : ByteArray) (a1 : ByteArray) : Option Bool :=
 (ob (Q19.f a1 a0) fun r1 => (some r1))
noncomputable def Q2s.fn : TFn := ⟨[.str, (.ref .str)], [.bool], fun x => Q2s.f x.1 x.2⟩
noncomputable def Q2s.C : Cx := cxC [((56, [0, 0]), Q19.fn)] 7
theorem Q2s.hC : CxOK Tryz.prog Q2s.C := cxq (FsOK.cons Q19.ok (FsOK.nil))
noncomputable def Q2s.root : Code := Z6 Tryz.f72
theorem Q2s.ok : FnOK Tryz.prog 72 Q2s.fn := .qq Q2s.root Q2s.hC Tryz.func72 (lkL []) [.tmp 3] LsOK.nil fun x => by kernel_rfl
noncomputable def Q5.s0 (v0_0 : (List ByteArray)) (v0_1 : ByteArray) (v0_7 : Int) (x0_8 : Int) : Option (Int ⊕ (Int ⊕ Unit)) :=
 (cb (decide (x0_8 < v0_7)) (ck (0 ≤ x0_8 ∧ x0_8 < ((List.length v0_0 : Nat) : Int)) (let y4 : ByteArray := (rd ByteArray.empty v0_0 x0_8); (ob (Q2s.f y4 v0_1) fun r5 => (cb r5 (some (.inr (.inl x0_8))) (ck (InR (x0_8 + (1 : Int))) (some (.inl (x0_8 + (1 : Int))))))))) (some (.inr (.inr ()))))
noncomputable def Q5.l0 (v0_0 : (List ByteArray)) (v0_1 : ByteArray) (v0_7 : Int) (x0_8 : Int) : Option (Int ⊕ Unit) :=
 Zj (fun (x : Int) => Q5.s0 v0_0 v0_1 v0_7 x) x0_8
noncomputable def Q5.e0 : Ent where
 pre := []
 inv := [(0, .val (.slice .str)), (1, .val (.clo 72 (.ref .str))), (7, .val (.int .i64))]
 car := ⟨[(8, .val (.int .i64))], []⟩
 exits := [(.ret, ⟨[(4, .val (.int .i64))], []⟩), (.exit 0, ⟨[], []⟩)]
 step := fun iv x => Q5.s0 iv.1 iv.2.1 iv.2.2 x
noncomputable def Q5.f (a0 : (List ByteArray)) (a1 : ByteArray) : Option Int :=
 (let y1 : Int := ((List.length a0 : Nat) : Int); (ob (Q5.l0 a0 a1 y1 (0 : Int)) fun r6 => (Z1g r6 (fun a7 => (some a7)) (fun b8 => (some (-1 : Int))))))
noncomputable def Q5.fn : TFn := ⟨[(.slice .str), (.clo 72 (.ref .str))], [(.int .i64)], fun x => Q5.f x.1 x.2⟩
noncomputable def Q5.C : Cx := cxC [((72, [0]), Q2s.fn)] 19
theorem Q5.hC : CxOK Tryz.prog Q5.C := cxq (FsOK.cons Q2s.ok (FsOK.nil))
noncomputable def Q5.root : Code := Z6 Tryz.f66
theorem Q5.h0 : LsOK Tryz.prog Q5.C Q5.root (lkL [([0, 1, 0, 1], Q5.e0)]) :=
 LsOK.cons Q5.hC (LsOK.nil) (by kernel_rfl) (fun iv x => by kernel_rfl)
theorem Q5.ok : FnOK Tryz.prog 66 Q5.fn := .qq Q5.root Q5.hC Tryz.func66 (lkL [([0, 1, 0, 1], Q5.e0)]) [.tmp 4] Q5.h0 fun x => by kernel_rfl
noncomputable def Qk.f (a0 : (List ByteArray)) (a1 : ByteArray) : Option Bool :=
 (ob (Q5.f a0 a1) fun r1 => (some (decide ((0 : Int) ≤ r1))))
noncomputable def Qk.fn : TFn := ⟨[(.slice .str), (.clo 72 (.ref .str))], [.bool], fun x => Qk.f x.1 x.2⟩
noncomputable def Qk.C : Cx := cxC [((66, [0, 74]), Q5.fn)] 9
theorem Qk.hC : CxOK Tryz.prog Qk.C := cxq (FsOK.cons Q5.ok (FsOK.nil))
noncomputable def Qk.root : Code := Z6 Tryz.f36
theorem Qk.ok : FnOK Tryz.prog 36 Qk.fn := .qq Qk.root Qk.hC Tryz.func36 (lkL []) [.tmp 4] LsOK.nil fun x => by kernel_rfl
noncomputable def Q2t.f (a0 : (ByteArray × (ByteArray × ((List ByteArray) × (Int × Int))))) (a1 : ByteArray) (a2 : Int) : Option Bool :=
 (cb (decide (a0.2.2.2.1 ≤ a2)) (cb (decide (a2 < a0.2.2.2.2)) (ob (Qk.f a0.2.2.1 a1) fun r1 => (some r1)) (some false)) (some false))
noncomputable def Q2t.fn : TFn := ⟨[(.pair .str (.pair .str (.pair (.slice .str) (.pair (.int .i64) (.int .i64))))), .str, (.int .i64)], [.bool], fun x => Q2t.f x.1 x.2.1 x.2.2⟩
noncomputable def Q2t.C : Cx := ⟨T, TYt, lkF [((36, [0, 74]), Qk.fn)], lkO [], lkD [], lkP [], [3], [], false, [], [], lkS [], 23, lkW [], 0⟩
theorem Q2t.hC : CxOK Tryz.prog Q2t.C := cxq (FsOK.cons Qk.ok (FsOK.nil))
noncomputable def Q2t.root : Code := Z6 Tryz.f41
theorem Q2t.ok : FnOK Tryz.prog 41 Q2t.fn := .qq Q2t.root Q2t.hC Tryz.func41 (lkL []) [.tmp 6] LsOK.nil fun x => by kernel_rfl
noncomputable def Q21.f (a0 : (List (ByteArray × (ByteArray × ((List ByteArray) × (Int × Int)))))) (a1 : (ByteArray × (ByteArray × (ByteArray × (ByteArray × (Int × ((List ByteArray) × ByteArray))))))) : Option Int :=
 (ob (Q2f.f a0 a1.2.2.2.1) fun r1 => (cb (!r1.2) (some (3 : Int)) (ob (Q23.f r1.1.2.1 a1) fun r2 => (cb (!decide (a1.2.2.2.2.2.2 = r2)) (some (2 : Int)) (ob (Q2t.f r1.1 a1.2.1 a1.2.2.2.2.1) fun r3 => (cb (!r3) (some (4 : Int)) (some (1 : Int))))))))
noncomputable def Q21.fn : TFn := ⟨[(.slice (.pair .str (.pair .str (.pair (.slice .str) (.pair (.int .i64) (.int .i64)))))), (.pair .str (.pair .str (.pair .str (.pair .str (.pair (.int .i64) (.pair (.slice .str) .str))))))], [(.int .i64)], fun x => Q21.f x.1 x.2⟩
noncomputable def Q21.C : Cx := ⟨T, TYt, lkF [((39, [0, 0]), Q2f.fn), ((40, [0, 0]), Q23.fn), ((41, [0, 0, 0]), Q2t.fn)], lkO [], lkD [(4, 6, [(0, true), (1, true), (2, true), (3, true), (4, true), (5, false)], none)], lkP [], [3, 5], [], false, [], [], lkS [], 33, lkW [], 0⟩
theorem Q21.hC : CxOK Tryz.prog Q21.C := cxq (FsOK.cons Q2f.ok (FsOK.cons Q23.ok (FsOK.cons Q2t.ok (FsOK.nil))))
noncomputable def Q21.root : Code := Z6 Tryz.f21
theorem Q21.ok : FnOK Tryz.prog 21 Q21.fn := .qq Q21.root Q21.hC Tryz.func21 (lkL []) [.tmp 4] LsOK.nil fun x => by kernel_rfl
noncomputable def Qd.s0 (v0_2 : (List (Int × (ByteArray × Int)))) (v0_9 : Int) (x0_15 : Int) (o0_0_0 : ByteArray) (o0_1_0 : Bool) (o0_2_0 : Int) : Option ((Int × (ByteArray × (Bool × Int))) ⊕ (Int × (ByteArray × (Bool × Int)))) :=
 (let y7 : Int := ((List.length v0_2 : Nat) : Int); (cb (decide (x0_15 < y7)) (ck (0 ≤ x0_15 ∧ x0_15 < ((List.length v0_2 : Nat) : Int)) (let y8 : Int := (rd ((0 : Int), (ByteArray.empty, (0 : Int))) v0_2 x0_15).2.2; (cb (decide (y8 ≤ v0_9)) (ck (InR (x0_15 + (1 : Int))) (some (.inl ((x0_15 + (1 : Int)), o0_0_0, o0_1_0, o0_2_0)))) (some (.inr (x0_15, o0_0_0, o0_1_0, o0_2_0)))))) (some (.inr (x0_15, o0_0_0, o0_1_0, o0_2_0)))))
noncomputable def Qd.l0 (v0_2 : (List (Int × (ByteArray × Int)))) (v0_9 : Int) (x0_15 : Int) (o0_0_0 : ByteArray) (o0_1_0 : Bool) (o0_2_0 : Int) : Option (Int × (ByteArray × (Bool × Int))) :=
 Zj (fun (x : (Int × (ByteArray × (Bool × Int)))) => Qd.s0 v0_2 v0_9 x.1 x.2.1 x.2.2.1 x.2.2.2) (x0_15, o0_0_0, o0_1_0, o0_2_0)
noncomputable def Qd.e0 : Ent where
 pre := []
 inv := [(1, .val (.slice (.pair .str (.pair .str (.pair .str (.pair .str (.pair (.int .i64) (.pair (.slice .str) .str)))))))), (2, .val (.slice (.pair (.int .i64) (.pair .str (.int .i64))))), (5, .rp (.slice (.pair .str (.pair .str (.pair (.slice .str) (.pair (.int .i64) (.int .i64))))))), (8, .rp .str), (9, .rp (.int .i64))]
 car := ⟨[(10, .ptr 0 1), (11, .ptr 1 1), (12, .ptr 2 1), (15, .val (.int .i64))], [.box 9 [.val .str], .box 4 [.val .bool], .box 30 [.val (.int .i64)]]⟩
 exits := [(.exit 0, ⟨[(10, .ptr 0 1), (11, .ptr 1 1), (12, .ptr 2 1), (15, .val (.int .i64))], [.box 9 [.val .str], .box 4 [.val .bool], .box 30 [.val (.int .i64)]]⟩)]
 step := fun iv x => Qd.s0 iv.2.1 iv.2.2.2.2 x.1 x.2.1 x.2.2.1 x.2.2.2
noncomputable def Qd.s1 (v1_5 : (List (ByteArray × (ByteArray × ((List ByteArray) × (Int × Int)))))) (v1_8 : ByteArray) (v1_9 : Int) (v1_16 : (List Bool)) (o1_0_0 : ByteArray) (o1_1_0 : Bool) (o1_2_0 : Int) (i : Int) (v : (ByteArray × (ByteArray × (ByteArray × (ByteArray × (Int × ((List ByteArray) × ByteArray))))))) : Option ((ByteArray × (Bool × Int)) ⊕ (ByteArray × (Bool × Int))) :=
 (cb (decide (v.2.2.2.2.1 ≤ v1_9)) (cb (decide (v.1 = v1_8)) (ck (0 ≤ i ∧ i < ((List.length v1_16 : Nat) : Int)) (cb (!(rd false v1_16 i)) (ob (Q21.f v1_5 v) fun r13 => (cb (decide (r13 = (1 : Int))) (some (.inr (v.2.2.1, true, (0 : Int)))) (some (.inl (o1_0_0, o1_1_0, o1_2_0))))) (some (.inl (o1_0_0, o1_1_0, o1_2_0))))) (some (.inl (o1_0_0, o1_1_0, o1_2_0)))) (some (.inl (o1_0_0, o1_1_0, o1_2_0))))
noncomputable def Qd.l1 (v1_5 : (List (ByteArray × (ByteArray × ((List ByteArray) × (Int × Int)))))) (v1_8 : ByteArray) (v1_9 : Int) (v1_16 : (List Bool)) (es : List (ByteArray × (ByteArray × (ByteArray × (ByteArray × (Int × ((List ByteArray) × ByteArray))))))) (o1_0_0 : ByteArray) (o1_1_0 : Bool) (o1_2_0 : Int) : Option ((ByteArray × (Bool × Int)) ⊕ (ByteArray × (Bool × Int))) :=
 Z6b (fun (x : (ByteArray × (Bool × Int))) i v => Qd.s1 v1_5 v1_8 v1_9 v1_16 x.1 x.2.1 x.2.2 i v) (List.reverse es) (o1_0_0, o1_1_0, o1_2_0)
noncomputable def Qd.e1 : EntR where
 inv := [(5, .rp (.slice (.pair .str (.pair .str (.pair (.slice .str) (.pair (.int .i64) (.int .i64))))))), (8, .rp .str), (9, .rp (.int .i64)), (16, .rp (.slice .bool))]
 sl := [(10, .ptr 0 1), (11, .ptr 1 1), (12, .ptr 2 1)]
 obs := [.box 9 [.val .str], .box 4 [.val .bool], .box 30 [.val (.int .i64)], .dead]
 outs := [.box 9 [.val .str], .box 4 [.val .bool], .box 30 [.val (.int .i64)], .dead]
 it := 57
 fn := 38
 t := (.pair .str (.pair .str (.pair .str (.pair .str (.pair (.int .i64) (.pair (.slice .str) .str))))))
 pi := 58
 pv := 59
 step := fun iv x i v => Qd.s1 iv.1 iv.2.1 iv.2.2.1 iv.2.2.2 x.1 x.2.1 x.2.2 i v
noncomputable def Qd.f (a0 : (List (ByteArray × (ByteArray × ((List ByteArray) × (Int × Int)))))) (a1 : (List (ByteArray × (ByteArray × (ByteArray × (ByteArray × (Int × ((List ByteArray) × ByteArray)))))))) (a2 : (List (Int × (ByteArray × Int)))) (a3 : ByteArray) (a4 : Int) : Option (ByteArray × (Bool × Int)) :=
 (ob (Q7.f a0) fun r1 => (cb (!decide (r1 = (0 : Int))) (some (bs_, false, r1)) (ob (Qj.f a1 a2) fun r2 => (cb (!decide (r2 = (0 : Int))) (some (bs_, false, r2)) (ob (Q1q.f a3) fun r3 => (cb (!r3) (some (bs_, false, (3 : Int))) (ob (Q1n.f a4 (0 : Int) (1000000000 : Int)) fun r4 => (cb (!r4) (some (bs_, false, (1 : Int))) (ob (Qd.l0 a2 a4 (0 : Int) bs_ false (0 : Int)) fun r9 => (ck (0 ≤ r9.1 ∧ r9.1 ≤ ((List.length a2 : Nat) : Int)) (let y10 : (List (Int × (ByteArray × Int))) := (List.take (Int.toNat r9.1) a2); (ob (Q16.f a1 y10) fun r11 => (ob (Q1r.f a1) fun r12 => (ck ((List.length r12 : Int) ≤ 9223372036854775807) (ob (Qd.l1 a0 a3 a4 r11 r12 r9.2.1 r9.2.2.1 r9.2.2.2) fun r16 => (Z1g r16 (fun a14 => (some (bs_, false, (0 : Int)))) (fun b15 => (some (b15.1, b15.2.1, b15.2.2)))))))))))))))))))
noncomputable def Qd.fn : TFn := ⟨[(.slice (.pair .str (.pair .str (.pair (.slice .str) (.pair (.int .i64) (.int .i64)))))), (.slice (.pair .str (.pair .str (.pair .str (.pair .str (.pair (.int .i64) (.pair (.slice .str) .str))))))), (.slice (.pair (.int .i64) (.pair .str (.int .i64)))), .str, (.int .i64)], [.str, .bool, (.int .i64)], fun x => Qd.f x.1 x.2.1 x.2.2.1 x.2.2.2.1 x.2.2.2.2⟩
noncomputable def Qd.C : Cx := ⟨T, TYt, lkF [((15, [0]), Q7.fn), ((16, [0, 0]), Qj.fn), ((17, [0]), Q1q.fn), ((18, [0, 0, 0]), Q1n.fn), ((19, [0, 0]), Q16.fn), ((20, [0]), Q1r.fn), ((21, [0, 0]), Q21.fn)], lkO [], lkD [(12, 11, [(0, true), (1, true), (2, true), (3, true), (4, true), (5, true), (6, true), (7, true), (8, true), (9, true), (10, true)], none)], lkP [], [5, 8, 9, 16, 18], [], false, [], [], lkS [], 85, lkW [], 0⟩
theorem Qd.hC : CxOK Tryz.prog Qd.C := cxq (FsOK.cons Q7.ok (FsOK.cons Qj.ok (FsOK.cons Q1q.ok (FsOK.cons Q1n.ok (FsOK.cons Q16.ok (FsOK.cons Q1r.ok (FsOK.cons Q21.ok (FsOK.nil))))))))
noncomputable def Qd.root : Code := Z6 Tryz.f7
theorem Qd.h0 : LsOK Tryz.prog Qd.C Qd.root (lkL [([0, 0, 1, 1, 1, 1, 1, 1], Qd.e0)]) true :=
 LsOK.cons Qd.hC (LsOK.nil) (by kernel_rfl) (fun iv x => by kernel_rfl)
theorem Qd.h1 : LsOK Tryz.prog Qd.C Qd.root (lkL [([0, 1, 0, 1, 1, 1, 1, 1, 1, 1, 1], Qd.e1), ([0, 0, 1, 1, 1, 1, 1, 1], Qd.e0)]) true :=
 LsOK.consR (l' := []) Qd.hC (Qd.h0) LsOK.nil back38 (fun x => el38_ok x) (by kernel_rfl) (by kernel_rfl) (by kernel_rfl) (by decide) (by decide) (fun iv x i v => by kernel_rfl)
theorem Qd.ok : FnOK Tryz.prog 7 Qd.fn :=
 FnOK.ofR (L := lkL [([0, 1, 0, 1, 1, 1, 1, 1, 1, 1, 1], Qd.e1), ([0, 0, 1, 1, 1, 1, 1, 1], Qd.e0)]) (root := Qd.root) Qd.hC (enters_of (c := Qd.root) Tryz.func7 (by kernel_rfl) (by kernel_rfl)) Tryz.func7 (by kernel_rfl) (rs := [.cell 10 9, .cell 11 4, .cell 12 30]) (by kernel_rfl) (by kernel_rfl) Qd.h1 (fun x => by kernel_rfl)
noncomputable def Q1m.f (a0 : Int) (a1 : Int) (a2 : Int) : Option Bool :=
 (cb (decide (a1 ≤ a0)) (some (decide (a0 ≤ a2))) (some false))
noncomputable def Q1m.fn : TFn := ⟨[(.int .i64), (.int .i64), (.int .i64)], [.bool], fun x => Q1m.f x.1 x.2.1 x.2.2⟩
noncomputable def Q1m.C : Cx := cxC [] 15
theorem Q1m.hC : CxOK Tryz.prog Q1m.C := cxq FsOK.nil
noncomputable def Q1m.root : Code := Z6 Tryz.f25
theorem Q1m.ok : FnOK Tryz.prog 25 Q1m.fn := .qq Q1m.root Q1m.hC Tryz.func25 (lkL []) [.tmp 6] LsOK.nil fun x => by kernel_rfl
noncomputable def Q15.s0 (v0_0 : ByteArray) (v0_20 : Int) (x0_21 : Int) : Option (Int ⊕ (Bool ⊕ Unit)) :=
 (cb (decide (x0_21 < v0_20)) (ck (0 ≤ x0_21 ∧ x0_21 < ((ByteArray.size v0_0 : Nat) : Int)) (cb (decide (((UInt8.toNat (bt v0_0 x0_21) : Nat) : Int) < (97 : Int))) (cb (decide (((UInt8.toNat (bt v0_0 x0_21) : Nat) : Int) < (48 : Int))) (cb (!decide (((UInt8.toNat (bt v0_0 x0_21) : Nat) : Int) = (45 : Int))) (cb (!decide (((UInt8.toNat (bt v0_0 x0_21) : Nat) : Int) = (95 : Int))) (some (.inr (.inl false))) (ck (InR (x0_21 + (1 : Int))) (some (.inl (x0_21 + (1 : Int)))))) (ck (InR (x0_21 + (1 : Int))) (some (.inl (x0_21 + (1 : Int)))))) (cb (decide ((57 : Int) < ((UInt8.toNat (bt v0_0 x0_21) : Nat) : Int))) (cb (!decide (((UInt8.toNat (bt v0_0 x0_21) : Nat) : Int) = (45 : Int))) (cb (!decide (((UInt8.toNat (bt v0_0 x0_21) : Nat) : Int) = (95 : Int))) (some (.inr (.inl false))) (ck (InR (x0_21 + (1 : Int))) (some (.inl (x0_21 + (1 : Int)))))) (ck (InR (x0_21 + (1 : Int))) (some (.inl (x0_21 + (1 : Int)))))) (ck (InR (x0_21 + (1 : Int))) (some (.inl (x0_21 + (1 : Int))))))) (cb (decide ((122 : Int) < ((UInt8.toNat (bt v0_0 x0_21) : Nat) : Int))) (cb (decide (((UInt8.toNat (bt v0_0 x0_21) : Nat) : Int) < (48 : Int))) (cb (!decide (((UInt8.toNat (bt v0_0 x0_21) : Nat) : Int) = (45 : Int))) (cb (!decide (((UInt8.toNat (bt v0_0 x0_21) : Nat) : Int) = (95 : Int))) (some (.inr (.inl false))) (ck (InR (x0_21 + (1 : Int))) (some (.inl (x0_21 + (1 : Int)))))) (ck (InR (x0_21 + (1 : Int))) (some (.inl (x0_21 + (1 : Int)))))) (cb (decide ((57 : Int) < ((UInt8.toNat (bt v0_0 x0_21) : Nat) : Int))) (cb (!decide (((UInt8.toNat (bt v0_0 x0_21) : Nat) : Int) = (45 : Int))) (cb (!decide (((UInt8.toNat (bt v0_0 x0_21) : Nat) : Int) = (95 : Int))) (some (.inr (.inl false))) (ck (InR (x0_21 + (1 : Int))) (some (.inl (x0_21 + (1 : Int)))))) (ck (InR (x0_21 + (1 : Int))) (some (.inl (x0_21 + (1 : Int)))))) (ck (InR (x0_21 + (1 : Int))) (some (.inl (x0_21 + (1 : Int))))))) (ck (InR (x0_21 + (1 : Int))) (some (.inl (x0_21 + (1 : Int)))))))) (some (.inr (.inr ()))))
noncomputable def Q15.l0 (v0_0 : ByteArray) (v0_20 : Int) (x0_21 : Int) : Option (Bool ⊕ Unit) :=
 Zj (fun (x : Int) => Q15.s0 v0_0 v0_20 x) x0_21
noncomputable def Q15.e0 : Ent where
 pre := []
 inv := [(0, .val .str), (20, .val (.int .i64))]
 car := ⟨[(21, .val (.int .i64))], []⟩
 exits := [(.ret, ⟨[(2, .val .bool)], []⟩), (.exit 0, ⟨[], []⟩)]
 step := fun iv x => Q15.s0 iv.1 iv.2 x
noncomputable def Q15.f (a0 : ByteArray) : Option Bool :=
 (let y1 : Int := ((ByteArray.size a0 : Nat) : Int); (ob (Q1m.f y1 (1 : Int) (40 : Int)) fun r2 => (cb (!r2) (some false) (ck (0 ≤ (0 : Int) ∧ (0 : Int) < ((ByteArray.size a0 : Nat) : Int)) (cb (decide (((UInt8.toNat (bt a0 (0 : Int)) : Nat) : Int) < (97 : Int))) (some false) (ck (0 ≤ (0 : Int) ∧ (0 : Int) < ((ByteArray.size a0 : Nat) : Int)) (cb (decide ((122 : Int) < ((UInt8.toNat (bt a0 (0 : Int)) : Nat) : Int))) (some false) (let y3 : Int := ((ByteArray.size a0 : Nat) : Int); (ob (Q15.l0 a0 y3 (0 : Int)) fun r4 => (Z1g r4 (fun a5 => (some a5)) (fun b6 => (some true))))))))))))
noncomputable def Q15.fn : TFn := ⟨[.str], [.bool], fun x => Q15.f x⟩
noncomputable def Q15.C : Cx := cxC [((25, [0, 0, 0]), Q1m.fn)] 50
theorem Q15.hC : CxOK Tryz.prog Q15.C := cxq (FsOK.cons Q1m.ok (FsOK.nil))
noncomputable def Q15.root : Code := Z6 Tryz.f42
theorem Q15.h0 : LsOK Tryz.prog Q15.C Q15.root (lkL [([0, 1, 0, 1, 1], Q15.e0)]) :=
 LsOK.cons Q15.hC (LsOK.nil) (by kernel_rfl) (fun iv x => by kernel_rfl)
theorem Q15.ok : FnOK Tryz.prog 42 Q15.fn := .qq Q15.root Q15.hC Tryz.func42 (lkL [([0, 1, 0, 1, 1], Q15.e0)]) [.tmp 2] Q15.h0 fun x => by kernel_rfl
noncomputable def Q1c.s0 (v0_0 : ByteArray) (v0_5 : Int) (x0_6 : Int) : Option (Int ⊕ (Bool ⊕ Unit)) :=
 (cb (decide (x0_6 < v0_5)) (ck (0 ≤ x0_6 ∧ x0_6 < ((ByteArray.size v0_0 : Nat) : Int)) (cb (decide (((UInt8.toNat (bt v0_0 x0_6) : Nat) : Int) < (33 : Int))) (some (.inr (.inl false))) (ck (0 ≤ x0_6 ∧ x0_6 < ((ByteArray.size v0_0 : Nat) : Int)) (cb (decide ((126 : Int) < ((UInt8.toNat (bt v0_0 x0_6) : Nat) : Int))) (some (.inr (.inl false))) (ck (InR (x0_6 + (1 : Int))) (some (.inl (x0_6 + (1 : Int))))))))) (some (.inr (.inr ()))))
noncomputable def Q1c.l0 (v0_0 : ByteArray) (v0_5 : Int) (x0_6 : Int) : Option (Bool ⊕ Unit) :=
 Zj (fun (x : Int) => Q1c.s0 v0_0 v0_5 x) x0_6
noncomputable def Q1c.e0 : Ent where
 pre := []
 inv := [(0, .val .str), (5, .val (.int .i64))]
 car := ⟨[(6, .val (.int .i64))], []⟩
 exits := [(.ret, ⟨[(2, .val .bool)], []⟩), (.exit 0, ⟨[], []⟩)]
 step := fun iv x => Q1c.s0 iv.1 iv.2 x
noncomputable def Q1c.f (a0 : ByteArray) : Option Bool :=
 (let y1 : Int := ((ByteArray.size a0 : Nat) : Int); (ob (Q1c.l0 a0 y1 (0 : Int)) fun r2 => (Z1g r2 (fun a3 => (some a3)) (fun b4 => (some (!decide (a0 = bs_)))))))
noncomputable def Q1c.fn : TFn := ⟨[.str], [.bool], fun x => Q1c.f x⟩
noncomputable def Q1c.C : Cx := cxC [] 22
theorem Q1c.hC : CxOK Tryz.prog Q1c.C := cxq FsOK.nil
noncomputable def Q1c.root : Code := Z6 Tryz.f73
theorem Q1c.h0 : LsOK Tryz.prog Q1c.C Q1c.root (lkL [([0, 1, 0, 1], Q1c.e0)]) :=
 LsOK.cons Q1c.hC (LsOK.nil) (by kernel_rfl) (fun iv x => by kernel_rfl)
theorem Q1c.ok : FnOK Tryz.prog 73 Q1c.fn := .qq Q1c.root Q1c.hC Tryz.func73 (lkL [([0, 1, 0, 1], Q1c.e0)]) [.tmp 2] Q1c.h0 fun x => by kernel_rfl
noncomputable def Q24.f (a0 : ByteArray) : Option Bool :=
 (ob (Q1c.f a0) fun r1 => (cb r1 (let y2 : Int := ((ByteArray.size a0 : Nat) : Int); (some (decide (y2 ≤ (100 : Int))))) (some false)))
noncomputable def Q24.fn : TFn := ⟨[.str], [.bool], fun x => Q24.f x⟩
noncomputable def Q24.C : Cx := cxC [((73, [0]), Q1c.fn)] 10
theorem Q24.hC : CxOK Tryz.prog Q24.C := cxq (FsOK.cons Q1c.ok (FsOK.nil))
noncomputable def Q24.root : Code := Z6 Tryz.f43
theorem Q24.ok : FnOK Tryz.prog 43 Q24.fn := .qq Q24.root Q24.hC Tryz.func43 (lkL []) [.tmp 2] LsOK.nil fun x => by kernel_rfl
noncomputable def Qe.s0 (v0_0 : (List ByteArray)) (v0_8 : (List ByteArray)) (v0_9 : Int) (x0_10 : Int) : Option (Int ⊕ (Int ⊕ Unit)) :=
 (cb (decide (x0_10 < v0_9)) (ck (0 ≤ x0_10 ∧ x0_10 < ((List.length v0_8 : Nat) : Int)) (let y8 : ByteArray := (rd ByteArray.empty v0_8 x0_10); (ob (Q19.f y8 Q1f) fun r9 => (cb (!r9) (some (.inr (.inl (3 : Int)))) (let y10 : Int := ((ByteArray.size y8 : Nat) : Int); (cb (decide ((1000 : Int) < y10)) (some (.inr (.inl (3 : Int)))) (ob (Q1c.f y8) fun r11 => (cb (!r11) (some (.inr (.inl (3 : Int)))) (cb (decide ((0 : Int) < x0_10)) (ck (InR (x0_10 - (1 : Int))) (ck (0 ≤ (x0_10 - (1 : Int)) ∧ (x0_10 - (1 : Int)) < ((List.length v0_0 : Nat) : Int)) (let y12 : ByteArray := (rd ByteArray.empty v0_0 (x0_10 - (1 : Int))); (cb (Z3v y8 y12 || decide (y8 = y12)) (some (.inr (.inl (8 : Int)))) (ck (InR (x0_10 + (1 : Int))) (some (.inl (x0_10 + (1 : Int))))))))) (ck (InR (x0_10 + (1 : Int))) (some (.inl (x0_10 + (1 : Int)))))))))))))) (some (.inr (.inr ()))))
noncomputable def Qe.l0 (v0_0 : (List ByteArray)) (v0_8 : (List ByteArray)) (v0_9 : Int) (x0_10 : Int) : Option (Int ⊕ Unit) :=
 Zj (fun (x : Int) => Qe.s0 v0_0 v0_8 v0_9 x) x0_10
noncomputable def Qe.e0 : Ent where
 pre := []
 inv := [(0, .val (.slice .str)), (8, .val (.slice .str)), (9, .val (.int .i64))]
 car := ⟨[(10, .val (.int .i64))], []⟩
 exits := [(.ret, ⟨[(2, .val (.int .i64))], []⟩), (.exit 0, ⟨[], []⟩)]
 step := fun iv x => Qe.s0 iv.1 iv.2.1 iv.2.2 x
noncomputable def Qe.f (a0 : (List ByteArray)) : Option Int :=
 (let y1 : Int := ((List.length a0 : Nat) : Int); (cb (decide ((30 : Int) < y1)) (some (2 : Int)) (let y2 : Int := ((List.length a0 : Nat) : Int); (ob (Qe.l0 a0 a0 y2 (0 : Int)) fun r13 => (Z1g r13 (fun a14 => (some a14)) (fun b15 => (some (0 : Int))))))))
noncomputable def Qe.fn : TFn := ⟨[(.slice .str)], [(.int .i64)], fun x => Qe.f x⟩
noncomputable def Qe.C : Cx := cxC [((56, [0, 0]), Q19.fn), ((73, [0]), Q1c.fn)] 40
theorem Qe.hC : CxOK Tryz.prog Qe.C := cxq (FsOK.cons Q19.ok (FsOK.cons Q1c.ok (FsOK.nil)))
noncomputable def Qe.root : Code := Z6 Tryz.f44
theorem Qe.h0 : LsOK Tryz.prog Qe.C Qe.root (lkL [([0, 1, 0, 1, 1], Qe.e0)]) :=
 LsOK.cons Qe.hC (LsOK.nil) (by kernel_rfl) (fun iv x => by kernel_rfl)
theorem Qe.ok : FnOK Tryz.prog 44 Qe.fn := .qq Qe.root Qe.hC Tryz.func44 (lkL [([0, 1, 0, 1, 1], Qe.e0)]) [.tmp 2] Qe.h0 fun x => by kernel_rfl
noncomputable def Qm.s0 (v0_0 : (List (ByteArray × (ByteArray × ((List ByteArray) × (Int × Int)))))) (v0_9 : (List (ByteArray × (ByteArray × ((List ByteArray) × (Int × Int)))))) (v0_10 : Int) (x0_11 : Int) : Option (Int ⊕ (Int ⊕ Unit)) :=
 (cb (decide (x0_11 < v0_10)) (ck (0 ≤ x0_11 ∧ x0_11 < ((List.length v0_9 : Nat) : Int)) (let y10 : (ByteArray × (ByteArray × ((List ByteArray) × (Int × Int)))) := (rd (ByteArray.empty, (ByteArray.empty, (([] : (List ByteArray)), ((0 : Int), (0 : Int))))) v0_9 x0_11); (ob (Q15.f y10.1) fun r11 => (cb (!r11) (some (.inr (.inl (5 : Int)))) (ob (Q24.f y10.2.1) fun r12 => (cb (!r12) (some (.inr (.inl (3 : Int)))) (ob (Qe.f y10.2.2.1) fun r13 => (cb (!decide (r13 = (0 : Int))) (some (.inr (.inl r13))) (ob (Q1m.f y10.2.2.2.1 (0 : Int) (1000000000 : Int)) fun r14 => (cb (!r14) (some (.inr (.inl (1 : Int)))) (ob (Q1m.f y10.2.2.2.2 (0 : Int) (1000000001 : Int)) fun r15 => (cb (!r15) (some (.inr (.inl (1 : Int)))) (cb (decide (y10.2.2.2.2 ≤ y10.2.2.2.1)) (some (.inr (.inl (8 : Int)))) (cb (decide ((0 : Int) < x0_11)) (ck (InR (x0_11 - (1 : Int))) (ck (0 ≤ (x0_11 - (1 : Int)) ∧ (x0_11 - (1 : Int)) < ((List.length v0_0 : Nat) : Int)) (let y16 : ByteArray := (rd (ByteArray.empty, (ByteArray.empty, (([] : (List ByteArray)), ((0 : Int), (0 : Int))))) v0_0 (x0_11 - (1 : Int))).1; (cb (Z3v y10.1 y16 || decide (y10.1 = y16)) (some (.inr (.inl (8 : Int)))) (ck (InR (x0_11 + (1 : Int))) (some (.inl (x0_11 + (1 : Int))))))))) (ck (InR (x0_11 + (1 : Int))) (some (.inl (x0_11 + (1 : Int))))))))))))))))))) (some (.inr (.inr ()))))
noncomputable def Qm.l0 (v0_0 : (List (ByteArray × (ByteArray × ((List ByteArray) × (Int × Int)))))) (v0_9 : (List (ByteArray × (ByteArray × ((List ByteArray) × (Int × Int)))))) (v0_10 : Int) (x0_11 : Int) : Option (Int ⊕ Unit) :=
 Zj (fun (x : Int) => Qm.s0 v0_0 v0_9 v0_10 x) x0_11
noncomputable def Qm.e0 : Ent where
 pre := []
 inv := [(0, .val (.slice (.pair .str (.pair .str (.pair (.slice .str) (.pair (.int .i64) (.int .i64))))))), (9, .val (.slice (.pair .str (.pair .str (.pair (.slice .str) (.pair (.int .i64) (.int .i64))))))), (10, .val (.int .i64))]
 car := ⟨[(11, .val (.int .i64))], []⟩
 exits := [(.ret, ⟨[(2, .val (.int .i64))], []⟩), (.exit 0, ⟨[], []⟩)]
 step := fun iv x => Qm.s0 iv.1 iv.2.1 iv.2.2 x
noncomputable def Qm.f (a0 : (List (ByteArray × (ByteArray × ((List ByteArray) × (Int × Int)))))) : Option Int :=
 (let y1 : Int := ((List.length a0 : Nat) : Int); (cb (decide ((50 : Int) < y1)) (some (2 : Int)) (let y2 : Int := ((List.length a0 : Nat) : Int); (ob (Qm.l0 a0 a0 y2 (0 : Int)) fun r17 => (Z1g r17 (fun a18 => (some a18)) (fun b19 => (some (0 : Int))))))))
noncomputable def Qm.fn : TFn := ⟨[(.slice (.pair .str (.pair .str (.pair (.slice .str) (.pair (.int .i64) (.int .i64))))))], [(.int .i64)], fun x => Qm.f x⟩
noncomputable def Qm.C : Cx := ⟨T, TYt, lkF [((25, [0, 0, 0]), Q1m.fn), ((42, [0]), Q15.fn), ((43, [0]), Q24.fn), ((44, [0]), Qe.fn)], lkO [], lkD [(15, 17, [(0, true), (1, true), (2, true), (3, true), (4, true), (5, true), (6, true), (7, true), (8, true), (9, true), (10, true), (11, true), (12, true), (13, true), (14, true), (15, true), (16, true)], none)], lkP [], [4], [], false, [], [], lkS [], 61, lkW [], 0⟩
theorem Qm.hC : CxOK Tryz.prog Qm.C := cxq (FsOK.cons Q1m.ok (FsOK.cons Q15.ok (FsOK.cons Q24.ok (FsOK.cons Qe.ok (FsOK.nil)))))
noncomputable def Qm.root : Code := Z6 Tryz.f22
theorem Qm.h0 : LsOK Tryz.prog Qm.C Qm.root (lkL [([0, 1, 0, 1, 1], Qm.e0)]) :=
 LsOK.cons Qm.hC (LsOK.nil) (by kernel_rfl) (fun iv x => by kernel_rfl)
theorem Qm.ok : FnOK Tryz.prog 22 Qm.fn := .qq Qm.root Qm.hC Tryz.func22 (lkL [([0, 1, 0, 1, 1], Qm.e0)]) [.tmp 2] Qm.h0 fun x => by kernel_rfl
noncomputable def Q1o.f (a0 : ByteArray) : Option Bool :=
 (let y1 : Int := ((ByteArray.size a0 : Nat) : Int); (cb (decide (y1 = (16 : Int))) (ob (Q2n.f a0 Qi) fun r2 => (some (decide (r2 = bs_)))) (some false)))
noncomputable def Q1o.fn : TFn := ⟨[.str], [.bool], fun x => Q1o.f x⟩
noncomputable def Q1o.C : Cx := cxC [((33, [0, 0]), Q2n.fn)] 11
theorem Q1o.hC : CxOK Tryz.prog Q1o.C := cxq (FsOK.cons Q2n.ok (FsOK.nil))
noncomputable def Q1o.root : Code := Z6 Tryz.f24
theorem Q1o.ok : FnOK Tryz.prog 24 Q1o.fn := .qq Q1o.root Q1o.hC Tryz.func24 (lkL []) [.tmp 2] LsOK.nil fun x => by kernel_rfl
noncomputable def Q1i.s0 (v0_0 : ByteArray) (v0_6 : Int) (x0_7 : Int) : Option (Int ⊕ (Bool ⊕ Unit)) :=
 (cb (decide (x0_7 < v0_6)) (ck (0 ≤ x0_7 ∧ x0_7 < ((ByteArray.size v0_0 : Nat) : Int)) (cb (decide (((UInt8.toNat (bt v0_0 x0_7) : Nat) : Int) < (97 : Int))) (cb (decide (((UInt8.toNat (bt v0_0 x0_7) : Nat) : Int) < (65 : Int))) (cb (decide (((UInt8.toNat (bt v0_0 x0_7) : Nat) : Int) < (48 : Int))) (ob (Qo.f Q26 (bt v0_0 x0_7)) fun r10 => (cb (decide (r10 < (0 : Int))) (some (.inr (.inl false))) (ck (InR (x0_7 + (1 : Int))) (some (.inl (x0_7 + (1 : Int))))))) (cb (decide ((57 : Int) < ((UInt8.toNat (bt v0_0 x0_7) : Nat) : Int))) (ob (Qo.f Q26 (bt v0_0 x0_7)) fun r11 => (cb (decide (r11 < (0 : Int))) (some (.inr (.inl false))) (ck (InR (x0_7 + (1 : Int))) (some (.inl (x0_7 + (1 : Int))))))) (ck (InR (x0_7 + (1 : Int))) (some (.inl (x0_7 + (1 : Int))))))) (cb (decide ((90 : Int) < ((UInt8.toNat (bt v0_0 x0_7) : Nat) : Int))) (cb (decide (((UInt8.toNat (bt v0_0 x0_7) : Nat) : Int) < (48 : Int))) (ob (Qo.f Q26 (bt v0_0 x0_7)) fun r12 => (cb (decide (r12 < (0 : Int))) (some (.inr (.inl false))) (ck (InR (x0_7 + (1 : Int))) (some (.inl (x0_7 + (1 : Int))))))) (cb (decide ((57 : Int) < ((UInt8.toNat (bt v0_0 x0_7) : Nat) : Int))) (ob (Qo.f Q26 (bt v0_0 x0_7)) fun r13 => (cb (decide (r13 < (0 : Int))) (some (.inr (.inl false))) (ck (InR (x0_7 + (1 : Int))) (some (.inl (x0_7 + (1 : Int))))))) (ck (InR (x0_7 + (1 : Int))) (some (.inl (x0_7 + (1 : Int))))))) (ck (InR (x0_7 + (1 : Int))) (some (.inl (x0_7 + (1 : Int))))))) (cb (decide ((122 : Int) < ((UInt8.toNat (bt v0_0 x0_7) : Nat) : Int))) (cb (decide (((UInt8.toNat (bt v0_0 x0_7) : Nat) : Int) < (65 : Int))) (cb (decide (((UInt8.toNat (bt v0_0 x0_7) : Nat) : Int) < (48 : Int))) (ob (Qo.f Q26 (bt v0_0 x0_7)) fun r14 => (cb (decide (r14 < (0 : Int))) (some (.inr (.inl false))) (ck (InR (x0_7 + (1 : Int))) (some (.inl (x0_7 + (1 : Int))))))) (cb (decide ((57 : Int) < ((UInt8.toNat (bt v0_0 x0_7) : Nat) : Int))) (ob (Qo.f Q26 (bt v0_0 x0_7)) fun r15 => (cb (decide (r15 < (0 : Int))) (some (.inr (.inl false))) (ck (InR (x0_7 + (1 : Int))) (some (.inl (x0_7 + (1 : Int))))))) (ck (InR (x0_7 + (1 : Int))) (some (.inl (x0_7 + (1 : Int))))))) (cb (decide ((90 : Int) < ((UInt8.toNat (bt v0_0 x0_7) : Nat) : Int))) (cb (decide (((UInt8.toNat (bt v0_0 x0_7) : Nat) : Int) < (48 : Int))) (ob (Qo.f Q26 (bt v0_0 x0_7)) fun r16 => (cb (decide (r16 < (0 : Int))) (some (.inr (.inl false))) (ck (InR (x0_7 + (1 : Int))) (some (.inl (x0_7 + (1 : Int))))))) (cb (decide ((57 : Int) < ((UInt8.toNat (bt v0_0 x0_7) : Nat) : Int))) (ob (Qo.f Q26 (bt v0_0 x0_7)) fun r17 => (cb (decide (r17 < (0 : Int))) (some (.inr (.inl false))) (ck (InR (x0_7 + (1 : Int))) (some (.inl (x0_7 + (1 : Int))))))) (ck (InR (x0_7 + (1 : Int))) (some (.inl (x0_7 + (1 : Int))))))) (ck (InR (x0_7 + (1 : Int))) (some (.inl (x0_7 + (1 : Int))))))) (ck (InR (x0_7 + (1 : Int))) (some (.inl (x0_7 + (1 : Int)))))))) (some (.inr (.inr ()))))
noncomputable def Q1i.l0 (v0_0 : ByteArray) (v0_6 : Int) (x0_7 : Int) : Option (Bool ⊕ Unit) :=
 Zj (fun (x : Int) => Q1i.s0 v0_0 v0_6 x) x0_7
noncomputable def Q1i.e0 : Ent where
 pre := []
 inv := [(0, .val .str), (6, .val (.int .i64))]
 car := ⟨[(7, .val (.int .i64))], []⟩
 exits := [(.ret, ⟨[(2, .val .bool)], []⟩), (.exit 0, ⟨[], []⟩)]
 step := fun iv x => Q1i.s0 iv.1 iv.2 x
noncomputable def Q1i.f (a0 : ByteArray) : Option Bool :=
 (let y1 : Int := ((ByteArray.size a0 : Nat) : Int); (ob (Q1i.l0 a0 y1 (0 : Int)) fun r18 => (Z1g r18 (fun a19 => (some a19)) (fun b20 => (cb (!decide (a0 = bs_)) (cb (!decide (a0 = Q3a)) (some (!decide (a0 = Q38))) (some false)) (some false))))))
noncomputable def Q1i.fn : TFn := ⟨[.str], [.bool], fun x => Q1i.f x⟩
noncomputable def Q1i.C : Cx := cxC [((131, [0, 0]), Qo.fn)] 51
theorem Q1i.hC : CxOK Tryz.prog Q1i.C := cxq (FsOK.cons Qo.ok (FsOK.nil))
noncomputable def Q1i.root : Code := Z6 Tryz.f163
theorem Q1i.h0 : LsOK Tryz.prog Q1i.C Q1i.root (lkL [([0, 1, 0, 1], Q1i.e0)]) :=
 LsOK.cons Q1i.hC (LsOK.nil) (by kernel_rfl) (fun iv x => by kernel_rfl)
theorem Q1i.ok : FnOK Tryz.prog 163 Q1i.fn := .qq Q1i.root Q1i.hC Tryz.func163 (lkL [([0, 1, 0, 1], Q1i.e0)]) [.tmp 2] Q1i.h0 fun x => by kernel_rfl
noncomputable def Q2w.f (a0 : Int) (a1 : Int) (a2 : Int) : Option Bool :=
 (cb (decide (a1 ≤ a0)) (some (decide (a0 ≤ a2))) (some false))
noncomputable def Q2w.fn : TFn := ⟨[(.int .i64), (.int .i64), (.int .i64)], [.bool], fun x => Q2w.f x.1 x.2.1 x.2.2⟩
noncomputable def Q2w.C : Cx := cxC [] 15
theorem Q2w.hC : CxOK Tryz.prog Q2w.C := cxq FsOK.nil
noncomputable def Q2w.root : Code := Z6 Tryz.f164
theorem Q2w.ok : FnOK Tryz.prog 164 Q2w.fn := .qq Q2w.root Q2w.hC Tryz.func164 (lkL []) [.tmp 6] LsOK.nil fun x => by kernel_rfl
noncomputable def Q1d.s0 (v0_6 : (List ByteArray)) (v0_7 : Int) (x0_8 : Int) : Option (Int ⊕ (Bool ⊕ Unit)) :=
 (cb (decide (x0_8 < v0_7)) (ck (0 ≤ x0_8 ∧ x0_8 < ((List.length v0_6 : Nat) : Int)) (let y5 : ByteArray := (rd ByteArray.empty v0_6 x0_8); (ob (Q1i.f y5) fun r6 => (cb (!r6) (some (.inr (.inl false))) (ck (InR (x0_8 + (1 : Int))) (some (.inl (x0_8 + (1 : Int))))))))) (some (.inr (.inr ()))))
noncomputable def Q1d.l0 (v0_6 : (List ByteArray)) (v0_7 : Int) (x0_8 : Int) : Option (Bool ⊕ Unit) :=
 Zj (fun (x : Int) => Q1d.s0 v0_6 v0_7 x) x0_8
noncomputable def Q1d.e0 : Ent where
 pre := []
 inv := [(0, .val .str), (6, .val (.slice .str)), (7, .val (.int .i64))]
 car := ⟨[(8, .val (.int .i64))], []⟩
 exits := [(.ret, ⟨[(2, .val .bool)], []⟩), (.exit 0, ⟨[], []⟩)]
 step := fun iv x => Q1d.s0 iv.2.1 iv.2.2 x
noncomputable def Q1d.f (a0 : ByteArray) : Option Bool :=
 (ob (Q1v.f a0 Q35) fun r1 => (let y2 : Int := ((List.length r1 : Nat) : Int); (ob (Q1d.l0 r1 y2 (0 : Int)) fun r7 => (Z1g r7 (fun a8 => (some a8)) (fun b9 => (let y10 : Int := ((ByteArray.size a0 : Nat) : Int); (ob (Q2w.f y10 (1 : Int) (200 : Int)) fun r11 => (some r11))))))))
noncomputable def Q1d.fn : TFn := ⟨[.str], [.bool], fun x => Q1d.f x⟩
noncomputable def Q1d.C : Cx := cxC [((125, [0, 0]), Q1v.fn), ((163, [0]), Q1i.fn), ((164, [0, 0, 0]), Q2w.fn)] 19
theorem Q1d.hC : CxOK Tryz.prog Q1d.C := cxq (FsOK.cons Q1v.ok (FsOK.cons Q1i.ok (FsOK.cons Q2w.ok (FsOK.nil))))
noncomputable def Q1d.root : Code := Z6 Tryz.f153
theorem Q1d.h0 : LsOK Tryz.prog Q1d.C Q1d.root (lkL [([0, 1, 0, 1], Q1d.e0)]) :=
 LsOK.cons Q1d.hC (LsOK.nil) (by kernel_rfl) (fun iv x => by kernel_rfl)
theorem Q1d.ok : FnOK Tryz.prog 153 Q1d.fn := .qq Q1d.root Q1d.hC Tryz.func153 (lkL [([0, 1, 0, 1], Q1d.e0)]) [.tmp 2] Q1d.h0 fun x => by kernel_rfl
noncomputable def Q2l.f (a0 : ByteArray) : Option Bool :=
 (cb (decide (a0 = bs_)) (some true) (ob (Q1d.f a0) fun r1 => (some r1)))
noncomputable def Q2l.fn : TFn := ⟨[.str], [.bool], fun x => Q2l.f x⟩
noncomputable def Q2l.C : Cx := cxC [((153, [0]), Q1d.fn)] 9
theorem Q2l.hC : CxOK Tryz.prog Q2l.C := cxq (FsOK.cons Q1d.ok (FsOK.nil))
noncomputable def Q2l.root : Code := Z6 Tryz.f138
theorem Q2l.ok : FnOK Tryz.prog 138 Q2l.fn := .qq Q2l.root Q2l.hC Tryz.func138 (lkL []) [.tmp 2] LsOK.nil fun x => by kernel_rfl
noncomputable def Q2y.f (a0 : ByteArray) : Option ByteArray :=
 (ob (Q1g.f a0 (UInt8.ofInt (47 : Int))) fun r1 => (ck (InR (r1 + (1 : Int))) (ck (0 ≤ (r1 + (1 : Int)) ∧ (r1 + (1 : Int)) ≤ ((ByteArray.size a0 : Nat) : Int)) (let y2 : ByteArray := (ByteArray.extract a0 (Int.toNat (r1 + (1 : Int))) (ByteArray.size a0)); (some y2)))))
noncomputable def Q2y.fn : TFn := ⟨[.str], [.str], fun x => Q2y.f x⟩
noncomputable def Q2y.C : Cx := cxC [((129, [0, 0]), Q1g.fn)] 8
theorem Q2y.hC : CxOK Tryz.prog Q2y.C := cxq (FsOK.cons Q1g.ok (FsOK.nil))
noncomputable def Q2y.root : Code := Z6 Tryz.f139
theorem Q2y.ok : FnOK Tryz.prog 139 Q2y.fn := .qq Q2y.root Q2y.hC Tryz.func139 (lkL []) [.tmp 2] LsOK.nil fun x => by kernel_rfl
noncomputable def Q1p.f (a0 : (ByteArray × ByteArray)) : Option Int :=
 (ob (Q2l.f a0.1) fun r1 => (cb (!r1) (some (3 : Int)) (ob (Q1d.f a0.2) fun r2 => (cb (!r2) (some (3 : Int)) (some (0 : Int))))))
noncomputable def Q1p.fn : TFn := ⟨[(.pair .str .str)], [(.int .i64)], fun x => Q1p.f x⟩
noncomputable def Q1p.C : Cx := ⟨T, TYt, lkF [((138, [0]), Q2l.fn), ((153, [0]), Q1d.fn)], lkO [], lkD [], lkP [], [1], [], false, [], [], lkS [], 13, lkW [], 0⟩
theorem Q1p.hC : CxOK Tryz.prog Q1p.C := cxq (FsOK.cons Q2l.ok (FsOK.cons Q1d.ok (FsOK.nil)))
noncomputable def Q1p.root : Code := Z6 Tryz.f140
theorem Q1p.ok : FnOK Tryz.prog 140 Q1p.fn := .qq Q1p.root Q1p.hC Tryz.func140 (lkL []) [.tmp 2] LsOK.nil fun x => by kernel_rfl
noncomputable def Q2e.f (a0 : ByteArray) (a1 : ByteArray) : Option ((ByteArray × ByteArray) × Int) :=
 (ob (Q2l.f a1) fun r1 => (cb (!r1) (some ((bs_, bs_), (3 : Int))) (ob (Q2d.f a0 Q33) fun r2 => (ob (Q1h.f r2.1 Q1f) fun r3 => (cb r2.2.2 (cb (decide (r2.1 = bs_)) (ob (Q1p.f (a1, r2.2.1)) fun r4 => (cb (!decide (r4 = (0 : Int))) (some ((bs_, bs_), (10 : Int))) (some ((a1, r2.2.1), (0 : Int))))) (cb r2.2.2 (cb r3.2 (ob (Q1p.f (r3.1, r2.2.1)) fun r5 => (cb (!decide (r5 = (0 : Int))) (some ((bs_, bs_), (10 : Int))) (some ((r3.1, r2.2.1), (0 : Int))))) (cb r3.2 (cb (!decide (r3.1 = bs_)) (ob (Q2y.f r3.1) fun r6 => (ob (Q1p.f (r3.1, r6)) fun r7 => (cb (!decide (r7 = (0 : Int))) (some ((bs_, bs_), (10 : Int))) (some ((r3.1, r6), (0 : Int)))))) (some ((bs_, bs_), (10 : Int)))) (some ((bs_, bs_), (10 : Int))))) (cb r3.2 (cb (!decide (r3.1 = bs_)) (ob (Q2y.f r3.1) fun r8 => (ob (Q1p.f (r3.1, r8)) fun r9 => (cb (!decide (r9 = (0 : Int))) (some ((bs_, bs_), (10 : Int))) (some ((r3.1, r8), (0 : Int)))))) (some ((bs_, bs_), (10 : Int)))) (some ((bs_, bs_), (10 : Int)))))) (cb r2.2.2 (cb r3.2 (ob (Q1p.f (r3.1, r2.2.1)) fun r10 => (cb (!decide (r10 = (0 : Int))) (some ((bs_, bs_), (10 : Int))) (some ((r3.1, r2.2.1), (0 : Int))))) (cb r3.2 (cb (!decide (r3.1 = bs_)) (ob (Q2y.f r3.1) fun r11 => (ob (Q1p.f (r3.1, r11)) fun r12 => (cb (!decide (r12 = (0 : Int))) (some ((bs_, bs_), (10 : Int))) (some ((r3.1, r11), (0 : Int)))))) (some ((bs_, bs_), (10 : Int)))) (some ((bs_, bs_), (10 : Int))))) (cb r3.2 (cb (!decide (r3.1 = bs_)) (ob (Q2y.f r3.1) fun r13 => (ob (Q1p.f (r3.1, r13)) fun r14 => (cb (!decide (r14 = (0 : Int))) (some ((bs_, bs_), (10 : Int))) (some ((r3.1, r13), (0 : Int)))))) (some ((bs_, bs_), (10 : Int)))) (some ((bs_, bs_), (10 : Int))))))))))
noncomputable def Q2e.fn : TFn := ⟨[.str, .str], [(.pair .str .str), (.int .i64)], fun x => Q2e.f x.1 x.2⟩
noncomputable def Q2e.C : Cx := cxC [((105, [0, 0]), Q1h.fn), ((106, [0, 0]), Q2d.fn), ((138, [0]), Q2l.fn), ((139, [0]), Q2y.fn), ((140, [0]), Q1p.fn)] 61
theorem Q2e.hC : CxOK Tryz.prog Q2e.C := cxq (FsOK.cons Q1h.ok (FsOK.cons Q2d.ok (FsOK.cons Q2l.ok (FsOK.cons Q2y.ok (FsOK.cons Q1p.ok (FsOK.nil))))))
noncomputable def Q2e.root : Code := Z6 Tryz.f118
theorem Q2e.ok : FnOK Tryz.prog 118 Q2e.fn := .qq Q2e.root Q2e.hC Tryz.func118 (lkL []) [.cell 4 103, .tmp 5] LsOK.nil fun x => by kernel_rfl
noncomputable def Q2c.f (a0 : ByteArray) : Option Bool :=
 (ob (Q2e.f a0 bs_) fun r1 => (cb (decide (r1.2 = (0 : Int))) (ck (((ByteArray.size Q1f + ByteArray.size r1.1.1 : Nat) : Int) ≤ 9223372036854775807) (ck (((ByteArray.size (Q1f ++ r1.1.1) + ByteArray.size Q33 : Nat) : Int) ≤ 9223372036854775807) (let y2 : ByteArray := ((Q1f ++ r1.1.1) ++ Q33); (ck (((ByteArray.size y2 + ByteArray.size r1.1.2 : Nat) : Int) ≤ 9223372036854775807) (some (decide (a0 = (y2 ++ r1.1.2)))))))) (some false)))
noncomputable def Q2c.fn : TFn := ⟨[.str], [.bool], fun x => Q2c.f x⟩
noncomputable def Q2c.C : Cx := ⟨T, TYt, lkF [((118, [0, 0]), Q2e.fn)], lkO [], lkD [], lkP [], [3], [], false, [], [], lkS [], 23, lkW [], 0⟩
theorem Q2c.hC : CxOK Tryz.prog Q2c.C := cxq (FsOK.cons Q2e.ok (FsOK.nil))
noncomputable def Q2c.root : Code := Z6 Tryz.f91
theorem Q2c.ok : FnOK Tryz.prog 91 Q2c.fn := .qq Q2c.root Q2c.hC Tryz.func91 (lkL []) [.tmp 2] LsOK.nil fun x => by kernel_rfl
noncomputable def Qv.s0 (v0_1 : (ByteArray × (ByteArray × (ByteArray × (ByteArray × (Int × ((List ByteArray) × ByteArray))))))) (v0_36 : (List ByteArray)) (v0_37 : Int) (x0_38 : Int) : Option (Int ⊕ (Int ⊕ Unit)) :=
 (cb (decide (x0_38 < v0_37)) (ck (0 ≤ x0_38 ∧ x0_38 < ((List.length v0_36 : Nat) : Int)) (let y11 : ByteArray := (rd ByteArray.empty v0_36 x0_38); (ob (Q1o.f y11) fun r12 => (cb (!r12) (some (.inr (.inl (3 : Int)))) (cb (decide ((0 : Int) < x0_38)) (ck (InR (x0_38 - (1 : Int))) (ck (0 ≤ (x0_38 - (1 : Int)) ∧ (x0_38 - (1 : Int)) < ((List.length v0_1.2.2.2.2.2.1 : Nat) : Int)) (let y13 : ByteArray := (rd ByteArray.empty v0_1.2.2.2.2.2.1 (x0_38 - (1 : Int))); (cb (Z3v y11 y13 || decide (y11 = y13)) (some (.inr (.inl (8 : Int)))) (ck (InR (x0_38 + (1 : Int))) (some (.inl (x0_38 + (1 : Int))))))))) (ck (InR (x0_38 + (1 : Int))) (some (.inl (x0_38 + (1 : Int)))))))))) (some (.inr (.inr ()))))
noncomputable def Qv.l0 (v0_1 : (ByteArray × (ByteArray × (ByteArray × (ByteArray × (Int × ((List ByteArray) × ByteArray))))))) (v0_36 : (List ByteArray)) (v0_37 : Int) (x0_38 : Int) : Option (Int ⊕ Unit) :=
 Zj (fun (x : Int) => Qv.s0 v0_1 v0_36 v0_37 x) x0_38
noncomputable def Qv.e0 : Ent where
 pre := []
 inv := [(1, .rp (.pair .str (.pair .str (.pair .str (.pair .str (.pair (.int .i64) (.pair (.slice .str) .str))))))), (36, .val (.slice .str)), (37, .val (.int .i64))]
 car := ⟨[(38, .val (.int .i64))], []⟩
 exits := [(.ret, ⟨[(2, .val (.int .i64))], []⟩), (.exit 1, ⟨[], []⟩)]
 step := fun iv x => Qv.s0 iv.1 iv.2.1 iv.2.2 x
noncomputable def Qv.f (a0 : (ByteArray × (ByteArray × (ByteArray × (ByteArray × (Int × ((List ByteArray) × ByteArray))))))) : Option Int :=
 (ob (Q1o.f a0.1) fun r1 => (cb (!r1) (some (3 : Int)) (ob (Q2c.f a0.2.1) fun r2 => (cb (!r2) (some (10 : Int)) (ob (Q1o.f a0.2.2.1) fun r3 => (cb (!r3) (some (3 : Int)) (ob (Q15.f a0.2.2.2.1) fun r4 => (cb (!r4) (some (5 : Int)) (ob (Q1m.f a0.2.2.2.2.1 (0 : Int) (1000000000 : Int)) fun r5 => (cb (!r5) (some (1 : Int)) (let y6 : Int := ((List.length a0.2.2.2.2.2.1 : Nat) : Int); (cb (decide ((50 : Int) < y6)) (some (2 : Int)) (let y7 : Int := ((List.length a0.2.2.2.2.2.1 : Nat) : Int); (ob (Qv.l0 a0 a0.2.2.2.2.2.1 y7 (0 : Int)) fun r14 => (Z1g r14 (fun a15 => (some a15)) (fun b16 => (cb (!decide (a0.2.2.2.2.2.2 = bs_)) (ob (Q1o.f a0.2.2.2.2.2.2) fun r17 => (cb (!r17) (some (3 : Int)) (some (0 : Int)))) (some (0 : Int)))))))))))))))))))
noncomputable def Qv.fn : TFn := ⟨[(.pair .str (.pair .str (.pair .str (.pair .str (.pair (.int .i64) (.pair (.slice .str) .str))))))], [(.int .i64)], fun x => Qv.f x⟩
noncomputable def Qv.C : Cx := ⟨T, TYt, lkF [((24, [0]), Q1o.fn), ((25, [0, 0, 0]), Q1m.fn), ((42, [0]), Q15.fn), ((91, [0]), Q2c.fn)], lkO [], lkD [], lkP [], [1], [], false, [], [], lkS [], 68, lkW [], 0⟩
theorem Qv.hC : CxOK Tryz.prog Qv.C := cxq (FsOK.cons Q1o.ok (FsOK.cons Q1m.ok (FsOK.cons Q15.ok (FsOK.cons Q2c.ok (FsOK.nil)))))
noncomputable def Qv.root : Code := Z6 Tryz.f74
theorem Qv.h0 : LsOK Tryz.prog Qv.C Qv.root (lkL [([0, 1, 0, 1, 1], Qv.e0)]) :=
 LsOK.cons Qv.hC (LsOK.nil) (by kernel_rfl) (fun iv x => by kernel_rfl)
theorem Qv.ok : FnOK Tryz.prog 74 Qv.fn := .qq Qv.root Qv.hC Tryz.func74 (lkL [([0, 1, 0, 1, 1], Qv.e0)]) [.tmp 2] Qv.h0 fun x => by kernel_rfl
noncomputable def Q11.s0 (v0_0 : (List (ByteArray × (ByteArray × (ByteArray × (ByteArray × (Int × ((List ByteArray) × ByteArray)))))))) (v0_9 : (List (ByteArray × (ByteArray × (ByteArray × (ByteArray × (Int × ((List ByteArray) × ByteArray)))))))) (v0_10 : Int) (x0_11 : Int) : Option (Int ⊕ (Int ⊕ Unit)) :=
 (cb (decide (x0_11 < v0_10)) (ck (0 ≤ x0_11 ∧ x0_11 < ((List.length v0_9 : Nat) : Int)) (let y6 : (ByteArray × (ByteArray × (ByteArray × (ByteArray × (Int × ((List ByteArray) × ByteArray)))))) := (rd (ByteArray.empty, (ByteArray.empty, (ByteArray.empty, (ByteArray.empty, ((0 : Int), (([] : (List ByteArray)), ByteArray.empty)))))) v0_9 x0_11); (ob (Qv.f y6) fun r7 => (cb (!decide (r7 = (0 : Int))) (some (.inr (.inl r7))) (cb (decide (y6.2.2.2.2.2.2 = bs_)) (some (.inr (.inl (3 : Int)))) (cb (decide ((0 : Int) < x0_11)) (ck (InR (x0_11 - (1 : Int))) (ck (0 ≤ (x0_11 - (1 : Int)) ∧ (x0_11 - (1 : Int)) < ((List.length v0_0 : Nat) : Int)) (let y8 : Int := (rd (ByteArray.empty, (ByteArray.empty, (ByteArray.empty, (ByteArray.empty, ((0 : Int), (([] : (List ByteArray)), ByteArray.empty)))))) v0_0 (x0_11 - (1 : Int))).2.2.2.2.1; (cb (decide (y6.2.2.2.2.1 < y8)) (some (.inr (.inl (8 : Int)))) (ck (InR (x0_11 + (1 : Int))) (some (.inl (x0_11 + (1 : Int))))))))) (ck (InR (x0_11 + (1 : Int))) (some (.inl (x0_11 + (1 : Int))))))))))) (some (.inr (.inr ()))))
noncomputable def Q11.l0 (v0_0 : (List (ByteArray × (ByteArray × (ByteArray × (ByteArray × (Int × ((List ByteArray) × ByteArray)))))))) (v0_9 : (List (ByteArray × (ByteArray × (ByteArray × (ByteArray × (Int × ((List ByteArray) × ByteArray)))))))) (v0_10 : Int) (x0_11 : Int) : Option (Int ⊕ Unit) :=
 Zj (fun (x : Int) => Q11.s0 v0_0 v0_9 v0_10 x) x0_11
noncomputable def Q11.e0 : Ent where
 pre := []
 inv := [(0, .val (.slice (.pair .str (.pair .str (.pair .str (.pair .str (.pair (.int .i64) (.pair (.slice .str) .str)))))))), (9, .val (.slice (.pair .str (.pair .str (.pair .str (.pair .str (.pair (.int .i64) (.pair (.slice .str) .str)))))))), (10, .val (.int .i64))]
 car := ⟨[(11, .val (.int .i64))], []⟩
 exits := [(.ret, ⟨[(2, .val (.int .i64))], []⟩), (.exit 0, ⟨[], []⟩)]
 step := fun iv x => Q11.s0 iv.1 iv.2.1 iv.2.2 x
noncomputable def Q11.f (a0 : (List (ByteArray × (ByteArray × (ByteArray × (ByteArray × (Int × ((List ByteArray) × ByteArray)))))))) : Option Int :=
 (let y1 : Int := ((List.length a0 : Nat) : Int); (cb (decide ((1000 : Int) < y1)) (some (2 : Int)) (let y2 : Int := ((List.length a0 : Nat) : Int); (ob (Q11.l0 a0 a0 y2 (0 : Int)) fun r9 => (Z1g r9 (fun a10 => (some a10)) (fun b11 => (some (0 : Int))))))))
noncomputable def Q11.fn : TFn := ⟨[(.slice (.pair .str (.pair .str (.pair .str (.pair .str (.pair (.int .i64) (.pair (.slice .str) .str)))))))], [(.int .i64)], fun x => Q11.f x⟩
noncomputable def Q11.C : Cx := ⟨T, TYt, lkF [((74, [0]), Qv.fn)], lkO [], lkD [(11, 11, [(0, true), (1, true), (2, true), (3, true), (4, true), (5, true), (6, true), (7, true), (8, true), (9, true), (10, true)], none)], lkP [], [4], [], false, [], [], lkS [], 38, lkW [], 0⟩
theorem Q11.hC : CxOK Tryz.prog Q11.C := cxq (FsOK.cons Qv.ok (FsOK.nil))
noncomputable def Q11.root : Code := Z6 Tryz.f45
theorem Q11.h0 : LsOK Tryz.prog Q11.C Q11.root (lkL [([0, 1, 0, 1, 1], Q11.e0)]) :=
 LsOK.cons Q11.hC (LsOK.nil) (by kernel_rfl) (fun iv x => by kernel_rfl)
theorem Q11.ok : FnOK Tryz.prog 45 Q11.fn := .qq Q11.root Q11.hC Tryz.func45 (lkL [([0, 1, 0, 1, 1], Q11.e0)]) [.tmp 2] Q11.h0 fun x => by kernel_rfl
noncomputable def Qy.s0 (v0_0 : (List (ByteArray × (ByteArray × (ByteArray × (ByteArray × (Int × ((List ByteArray) × ByteArray)))))))) (v0_1 : (List (Int × (ByteArray × Int)))) (v0_16 : (List (Int × (ByteArray × Int)))) (v0_17 : Int) (x0_18 : Int) : Option (Int ⊕ (Int ⊕ Unit)) :=
 (cb (decide (x0_18 < v0_17)) (ck (0 ≤ x0_18 ∧ x0_18 < ((List.length v0_16 : Nat) : Int)) (let y11 : (Int × (ByteArray × Int)) := (rd ((0 : Int), (ByteArray.empty, (0 : Int))) v0_16 x0_18); (let y12 : Int := ((List.length v0_0 : Nat) : Int); (ck (InR (y12 - (1 : Int))) (ob (Q1m.f y11.1 (0 : Int) (y12 - (1 : Int))) fun r13 => (cb (!r13) (some (.inr (.inl (9 : Int)))) (ob (Q1o.f y11.2.1) fun r14 => (cb (!r14) (some (.inr (.inl (3 : Int)))) (ck (0 ≤ y11.1 ∧ y11.1 < ((List.length v0_0 : Nat) : Int)) (let y15 : Int := (rd (ByteArray.empty, (ByteArray.empty, (ByteArray.empty, (ByteArray.empty, ((0 : Int), (([] : (List ByteArray)), ByteArray.empty)))))) v0_0 y11.1).2.2.2.2.1; (ob (Q1m.f y11.2.2 y15 (1000000000 : Int)) fun r16 => (cb (!r16) (some (.inr (.inl (1 : Int)))) (cb (decide ((0 : Int) < x0_18)) (ck (InR (x0_18 - (1 : Int))) (ck (0 ≤ (x0_18 - (1 : Int)) ∧ (x0_18 - (1 : Int)) < ((List.length v0_1 : Nat) : Int)) (let y17 : Int := (rd ((0 : Int), (ByteArray.empty, (0 : Int))) v0_1 (x0_18 - (1 : Int))).2.2; (cb (decide (y11.2.2 < y17)) (some (.inr (.inl (8 : Int)))) (ck (InR (x0_18 + (1 : Int))) (some (.inl (x0_18 + (1 : Int))))))))) (ck (InR (x0_18 + (1 : Int))) (some (.inl (x0_18 + (1 : Int)))))))))))))))))) (some (.inr (.inr ()))))
noncomputable def Qy.l0 (v0_0 : (List (ByteArray × (ByteArray × (ByteArray × (ByteArray × (Int × ((List ByteArray) × ByteArray)))))))) (v0_1 : (List (Int × (ByteArray × Int)))) (v0_16 : (List (Int × (ByteArray × Int)))) (v0_17 : Int) (x0_18 : Int) : Option (Int ⊕ Unit) :=
 Zj (fun (x : Int) => Qy.s0 v0_0 v0_1 v0_16 v0_17 x) x0_18
noncomputable def Qy.e0 : Ent where
 pre := []
 inv := [(0, .val (.slice (.pair .str (.pair .str (.pair .str (.pair .str (.pair (.int .i64) (.pair (.slice .str) .str)))))))), (1, .val (.slice (.pair (.int .i64) (.pair .str (.int .i64))))), (16, .val (.slice (.pair (.int .i64) (.pair .str (.int .i64))))), (17, .val (.int .i64))]
 car := ⟨[(18, .val (.int .i64))], []⟩
 exits := [(.ret, ⟨[(4, .val (.int .i64))], []⟩), (.exit 0, ⟨[], []⟩)]
 step := fun iv x => Qy.s0 iv.1 iv.2.1 iv.2.2.1 iv.2.2.2 x
noncomputable def Qy.f (a0 : (List (ByteArray × (ByteArray × (ByteArray × (ByteArray × (Int × ((List ByteArray) × ByteArray)))))))) (a1 : (List (Int × (ByteArray × Int)))) : Option Int :=
 (ob (Q11.f a0) fun r1 => (cb (!decide (r1 = (0 : Int))) (some r1) (let y2 : Int := ((List.length a1 : Nat) : Int); (cb (decide ((1000 : Int) < y2)) (some (2 : Int)) (let y3 : Int := ((List.length a1 : Nat) : Int); (ob (Qy.l0 a0 a1 a1 y3 (0 : Int)) fun r18 => (Z1g r18 (fun a19 => (some a19)) (fun b20 => (some (0 : Int))))))))))
noncomputable def Qy.fn : TFn := ⟨[(.slice (.pair .str (.pair .str (.pair .str (.pair .str (.pair (.int .i64) (.pair (.slice .str) .str))))))), (.slice (.pair (.int .i64) (.pair .str (.int .i64))))], [(.int .i64)], fun x => Qy.f x.1 x.2⟩
noncomputable def Qy.C : Cx := ⟨T, TYt, lkF [((24, [0]), Q1o.fn), ((25, [0, 0, 0]), Q1m.fn), ((45, [0]), Q11.fn)], lkO [], lkD [(13, 8, [(0, true), (1, true), (2, true), (3, true), (4, true), (5, true), (6, true), (7, true)], none), (15, 11, [(0, true), (1, true), (2, true), (3, true), (4, true), (5, true), (6, true), (7, true), (8, true), (9, true), (10, true)], none)], lkP [], [7], [], false, [], [], lkS [], 62, lkW [], 0⟩
theorem Qy.hC : CxOK Tryz.prog Qy.C := cxq (FsOK.cons Q1o.ok (FsOK.cons Q1m.ok (FsOK.cons Q11.ok (FsOK.nil))))
noncomputable def Qy.root : Code := Z6 Tryz.f23
theorem Qy.h0 : LsOK Tryz.prog Qy.C Qy.root (lkL [([0, 1, 0, 1, 1, 1], Qy.e0)]) :=
 LsOK.cons Qy.hC (LsOK.nil) (by kernel_rfl) (fun iv x => by kernel_rfl)
theorem Qy.ok : FnOK Tryz.prog 23 Qy.fn := .qq Qy.root Qy.hC Tryz.func23 (lkL [([0, 1, 0, 1, 1, 1], Qy.e0)]) [.tmp 4] Qy.h0 fun x => by kernel_rfl
noncomputable def Q3.s0 (v0_1 : (List (ByteArray × (ByteArray × (ByteArray × (ByteArray × (Int × ((List ByteArray) × ByteArray)))))))) (v0_2 : Int) (v0_3 : ((List Bool) × ((List Bool) × ((List Bool) × (List ByteArray))))) (v0_17 : (List (ByteArray × (ByteArray × (ByteArray × (ByteArray × (Int × ((List ByteArray) × ByteArray)))))))) (v0_18 : Int) (x0_7 : Int) (x0_19 : Int) : Option ((Int × Int) ⊕ Int) :=
 (cb (decide (x0_19 < v0_18)) (ck (0 ≤ x0_19 ∧ x0_19 < ((List.length v0_17 : Nat) : Int)) (let y4 : (ByteArray × (ByteArray × (ByteArray × (ByteArray × (Int × ((List ByteArray) × ByteArray)))))) := (rd (ByteArray.empty, (ByteArray.empty, (ByteArray.empty, (ByteArray.empty, ((0 : Int), (([] : (List ByteArray)), ByteArray.empty)))))) v0_17 x0_19); (ck (0 ≤ v0_2 ∧ v0_2 < ((List.length v0_1 : Nat) : Int)) (let y5 : ByteArray := (rd (ByteArray.empty, (ByteArray.empty, (ByteArray.empty, (ByteArray.empty, ((0 : Int), (([] : (List ByteArray)), ByteArray.empty)))))) v0_1 v0_2).2.2.2.1; (cb (decide (y4.2.2.2.1 = y5)) (ck (0 ≤ x0_19 ∧ x0_19 < ((List.length v0_3.2.1 : Nat) : Int)) (cb (rd false v0_3.2.1 x0_19) (some (.inr x0_19)) (ck (InR (x0_19 + (1 : Int))) (some (.inl (x0_7, (x0_19 + (1 : Int)))))))) (ck (InR (x0_19 + (1 : Int))) (some (.inl (x0_7, (x0_19 + (1 : Int))))))))))) (some (.inr x0_7)))
noncomputable def Q3.l0 (v0_1 : (List (ByteArray × (ByteArray × (ByteArray × (ByteArray × (Int × ((List ByteArray) × ByteArray)))))))) (v0_2 : Int) (v0_3 : ((List Bool) × ((List Bool) × ((List Bool) × (List ByteArray))))) (v0_17 : (List (ByteArray × (ByteArray × (ByteArray × (ByteArray × (Int × ((List ByteArray) × ByteArray)))))))) (v0_18 : Int) (x0_7 : Int) (x0_19 : Int) : Option Int :=
 Zj (fun (x : (Int × Int)) => Q3.s0 v0_1 v0_2 v0_3 v0_17 v0_18 x.1 x.2) (x0_7, x0_19)
noncomputable def Q3.e0 : Ent where
 pre := []
 inv := [(1, .val (.slice (.pair .str (.pair .str (.pair .str (.pair .str (.pair (.int .i64) (.pair (.slice .str) .str)))))))), (2, .val (.int .i64)), (3, .rp (.pair (.slice .bool) (.pair (.slice .bool) (.pair (.slice .bool) (.slice .str))))), (17, .val (.slice (.pair .str (.pair .str (.pair .str (.pair .str (.pair (.int .i64) (.pair (.slice .str) .str)))))))), (18, .val (.int .i64))]
 car := ⟨[(7, .val (.int .i64)), (19, .val (.int .i64))], []⟩
 exits := [(.exit 0, ⟨[(7, .val (.int .i64))], []⟩)]
 step := fun iv x => Q3.s0 iv.1 iv.2.1 iv.2.2.1 iv.2.2.2.1 iv.2.2.2.2 x.1 x.2
noncomputable def Q3.s1 (v1_1 : (List (ByteArray × (ByteArray × (ByteArray × (ByteArray × (Int × ((List ByteArray) × ByteArray)))))))) (v1_2 : Int) (v1_3 : ((List Bool) × ((List Bool) × ((List Bool) × (List ByteArray))))) (v1_7 : Int) (x1_10 : Int) (x1_11 : Int) : Option ((Int × Int) ⊕ Int) :=
 (cb (decide (x1_11 < v1_7)) (ck (0 ≤ x1_11 ∧ x1_11 < ((List.length v1_1 : Nat) : Int)) (let y9 : ByteArray := (rd (ByteArray.empty, (ByteArray.empty, (ByteArray.empty, (ByteArray.empty, ((0 : Int), (([] : (List ByteArray)), ByteArray.empty)))))) v1_1 x1_11).2.2.2.1; (ck (0 ≤ v1_2 ∧ v1_2 < ((List.length v1_1 : Nat) : Int)) (let y10 : ByteArray := (rd (ByteArray.empty, (ByteArray.empty, (ByteArray.empty, (ByteArray.empty, ((0 : Int), (([] : (List ByteArray)), ByteArray.empty)))))) v1_1 v1_2).2.2.2.1; (cb (decide (y9 = y10)) (ck (0 ≤ x1_11 ∧ x1_11 < ((List.length v1_3.1 : Nat) : Int)) (cb (rd false v1_3.1 x1_11) (ck (0 ≤ x1_11 ∧ x1_11 < ((List.length v1_3.2.1 : Nat) : Int)) (cb (!(rd false v1_3.2.1 x1_11)) (ck (InR (x1_11 + (1 : Int))) (some (.inl (x1_11, (x1_11 + (1 : Int)))))) (ck (InR (x1_11 + (1 : Int))) (some (.inl (x1_10, (x1_11 + (1 : Int)))))))) (ck (InR (x1_11 + (1 : Int))) (some (.inl (x1_10, (x1_11 + (1 : Int)))))))) (ck (InR (x1_11 + (1 : Int))) (some (.inl (x1_10, (x1_11 + (1 : Int))))))))))) (some (.inr x1_10)))
noncomputable def Q3.l1 (v1_1 : (List (ByteArray × (ByteArray × (ByteArray × (ByteArray × (Int × ((List ByteArray) × ByteArray)))))))) (v1_2 : Int) (v1_3 : ((List Bool) × ((List Bool) × ((List Bool) × (List ByteArray))))) (v1_7 : Int) (x1_10 : Int) (x1_11 : Int) : Option Int :=
 Zj (fun (x : (Int × Int)) => Q3.s1 v1_1 v1_2 v1_3 v1_7 x.1 x.2) (x1_10, x1_11)
noncomputable def Q3.e1 : Ent where
 pre := []
 inv := [(1, .val (.slice (.pair .str (.pair .str (.pair .str (.pair .str (.pair (.int .i64) (.pair (.slice .str) .str)))))))), (2, .val (.int .i64)), (3, .rp (.pair (.slice .bool) (.pair (.slice .bool) (.pair (.slice .bool) (.slice .str))))), (7, .val (.int .i64))]
 car := ⟨[(10, .val (.int .i64)), (11, .val (.int .i64))], []⟩
 exits := [(.exit 2, ⟨[(10, .val (.int .i64))], []⟩)]
 step := fun iv x => Q3.s1 iv.1 iv.2.1 iv.2.2.1 iv.2.2.2 x.1 x.2
noncomputable def Q3.f (a0 : ((List Bool) × ((List Bool) × ((List Bool) × (List ByteArray))))) (a1 : (List (ByteArray × (ByteArray × (ByteArray × (ByteArray × (Int × ((List ByteArray) × ByteArray)))))))) (a2 : Int) : Option Bool :=
 (ck (0 ≤ a2 ∧ a2 < ((List.length a0.1 : Nat) : Int)) (cb (rd false a0.1 a2) (some false) (let y1 : Int := ((List.length a1 : Nat) : Int); (ob (Q3.l0 a1 a2 a0 a1 y1 (-1 : Int) (0 : Int)) fun r6 => (ob (Q3.l1 a1 a2 a0 r6 (-1 : Int) (0 : Int)) fun r11 => (cb (decide ((0 : Int) ≤ r6)) (some (decide (r11 < a2))) (some false)))))))
noncomputable def Q3.fn : TFn := ⟨[(.pair (.slice .bool) (.pair (.slice .bool) (.pair (.slice .bool) (.slice .str)))), (.slice (.pair .str (.pair .str (.pair .str (.pair .str (.pair (.int .i64) (.pair (.slice .str) .str))))))), (.int .i64)], [.bool], fun x => Q3.f x.1 x.2.1 x.2.2⟩
noncomputable def Q3.C : Cx := ⟨T, TYt, lkF [], lkO [], lkD [(7, 12, [(0, true), (1, true), (2, true), (3, true), (4, true), (5, true), (6, true), (7, true), (8, true), (9, true), (10, true), (11, true)], none), (14, 22, [(0, true), (1, true), (2, true), (3, true), (4, true), (5, true), (6, true), (7, true), (8, true), (9, true), (10, true), (11, true), (12, true), (13, true), (14, true), (15, true), (16, true), (17, true), (18, true), (19, true), (20, true), (21, true)], none)], lkP [], [3, 9], [], false, [], [], lkS [], 80, lkW [], 0⟩
theorem Q3.hC : CxOK Tryz.prog Q3.C := cxq FsOK.nil
noncomputable def Q3.root : Code := Z6 Tryz.f48
theorem Q3.h0 : LsOK Tryz.prog Q3.C Q3.root (lkL [([0, 1, 0, 1, 1, 1], Q3.e0)]) :=
 LsOK.cons Q3.hC (LsOK.nil) (by kernel_rfl) (fun iv x => by kernel_rfl)
theorem Q3.h1 : LsOK Tryz.prog Q3.C Q3.root (lkL [([0, 1, 0, 1, 1, 1, 1, 1], Q3.e1), ([0, 1, 0, 1, 1, 1], Q3.e0)]) :=
 LsOK.cons Q3.hC (Q3.h0) (by kernel_rfl) (fun iv x => by kernel_rfl)
theorem Q3.ok : FnOK Tryz.prog 48 Q3.fn := .qq Q3.root Q3.hC Tryz.func48 (lkL [([0, 1, 0, 1, 1, 1, 1, 1], Q3.e1), ([0, 1, 0, 1, 1, 1], Q3.e0)]) [.tmp 6] Q3.h1 fun x => by kernel_rfl
noncomputable def Qa.s1 (v1_1 : (List (ByteArray × (ByteArray × (ByteArray × (ByteArray × (Int × ((List ByteArray) × ByteArray)))))))) (v1_3 : ((List Bool) × ((List Bool) × ((List Bool) × (List ByteArray))))) (v1_8 : ByteArray) (v1_22 : Int) (x1_9 : Bool) (x1_10 : Bool) (x1_23 : Int) : Option ((Bool × (Bool × Int)) ⊕ (Bool × Bool)) :=
 (cb (decide (x1_23 < v1_22)) (ck (0 ≤ x1_23 ∧ x1_23 < ((List.length v1_1 : Nat) : Int)) (let y5 : ByteArray := (rd (ByteArray.empty, (ByteArray.empty, (ByteArray.empty, (ByteArray.empty, ((0 : Int), (([] : (List ByteArray)), ByteArray.empty)))))) v1_1 x1_23).2.2.1; (cb (decide (y5 = v1_8)) (cb x1_9 (cb x1_10 (ck (InR (x1_23 + (1 : Int))) (some (.inl (true, true, (x1_23 + (1 : Int)))))) (ck (0 ≤ x1_23 ∧ x1_23 < ((List.length v1_3.2.2.1 : Nat) : Int)) (ck (InR (x1_23 + (1 : Int))) (some (.inl (true, (!(rd false v1_3.2.2.1 x1_23)), (x1_23 + (1 : Int)))))))) (ck (0 ≤ x1_23 ∧ x1_23 < ((List.length v1_3.2.2.1 : Nat) : Int)) (cb x1_10 (ck (InR (x1_23 + (1 : Int))) (some (.inl ((rd false v1_3.2.2.1 x1_23), true, (x1_23 + (1 : Int)))))) (ck (0 ≤ x1_23 ∧ x1_23 < ((List.length v1_3.2.2.1 : Nat) : Int)) (ck (InR (x1_23 + (1 : Int))) (some (.inl ((rd false v1_3.2.2.1 x1_23), (!(rd false v1_3.2.2.1 x1_23)), (x1_23 + (1 : Int)))))))))) (ck (InR (x1_23 + (1 : Int))) (some (.inl (x1_9, x1_10, (x1_23 + (1 : Int))))))))) (some (.inr (x1_9, x1_10))))
noncomputable def Qa.l1 (v1_1 : (List (ByteArray × (ByteArray × (ByteArray × (ByteArray × (Int × ((List ByteArray) × ByteArray)))))))) (v1_3 : ((List Bool) × ((List Bool) × ((List Bool) × (List ByteArray))))) (v1_8 : ByteArray) (v1_22 : Int) (x1_9 : Bool) (x1_10 : Bool) (x1_23 : Int) : Option (Bool × Bool) :=
 Zj (fun (x : (Bool × (Bool × Int))) => Qa.s1 v1_1 v1_3 v1_8 v1_22 x.1 x.2.1 x.2.2) (x1_9, x1_10, x1_23)
noncomputable def Qa.e1 : Ent where
 pre := []
 inv := [(1, .val (.slice (.pair .str (.pair .str (.pair .str (.pair .str (.pair (.int .i64) (.pair (.slice .str) .str)))))))), (2, .val (.int .i64)), (3, .rp (.pair (.slice .bool) (.pair (.slice .bool) (.pair (.slice .bool) (.slice .str))))), (8, .val .str), (16, .val (.slice .str)), (17, .val (.int .i64)), (18, .val (.int .i64)), (22, .val (.int .i64))]
 car := ⟨[(9, .val .bool), (10, .val .bool), (23, .val (.int .i64))], []⟩
 exits := [(.exit 2, ⟨[(9, .val .bool), (10, .val .bool)], []⟩)]
 step := fun iv x => Qa.s1 iv.1 iv.2.2.1 iv.2.2.2.1 iv.2.2.2.2.2.2.2 x.1 x.2.1 x.2.2
noncomputable def Qa.s0 (v0_1 : (List (ByteArray × (ByteArray × (ByteArray × (ByteArray × (Int × ((List ByteArray) × ByteArray)))))))) (v0_2 : Int) (v0_3 : ((List Bool) × ((List Bool) × ((List Bool) × (List ByteArray))))) (v0_16 : (List ByteArray)) (v0_17 : Int) (x0_18 : Int) : Option (Int ⊕ (Bool ⊕ Unit)) :=
 (cb (decide (x0_18 < v0_17)) (ck (0 ≤ x0_18 ∧ x0_18 < ((List.length v0_16 : Nat) : Int)) (let y7 : ByteArray := (rd ByteArray.empty v0_16 x0_18); (ob (Qa.l1 v0_1 v0_3 y7 v0_2 false false (0 : Int)) fun r8 => (cb r8.1 (cb (!r8.2) (some (.inr (.inl true))) (ck (InR (x0_18 + (1 : Int))) (some (.inl (x0_18 + (1 : Int)))))) (ck (InR (x0_18 + (1 : Int))) (some (.inl (x0_18 + (1 : Int))))))))) (some (.inr (.inr ()))))
noncomputable def Qa.l0 (v0_1 : (List (ByteArray × (ByteArray × (ByteArray × (ByteArray × (Int × ((List ByteArray) × ByteArray)))))))) (v0_2 : Int) (v0_3 : ((List Bool) × ((List Bool) × ((List Bool) × (List ByteArray))))) (v0_16 : (List ByteArray)) (v0_17 : Int) (x0_18 : Int) : Option (Bool ⊕ Unit) :=
 Zj (fun (x : Int) => Qa.s0 v0_1 v0_2 v0_3 v0_16 v0_17 x) x0_18
noncomputable def Qa.e0 : Ent where
 pre := []
 inv := [(1, .val (.slice (.pair .str (.pair .str (.pair .str (.pair .str (.pair (.int .i64) (.pair (.slice .str) .str)))))))), (2, .val (.int .i64)), (3, .rp (.pair (.slice .bool) (.pair (.slice .bool) (.pair (.slice .bool) (.slice .str))))), (16, .val (.slice .str)), (17, .val (.int .i64))]
 car := ⟨[(18, .val (.int .i64))], []⟩
 exits := [(.ret, ⟨[(6, .val .bool)], []⟩), (.exit 0, ⟨[], []⟩)]
 step := fun iv x => Qa.s0 iv.1 iv.2.1 iv.2.2.1 iv.2.2.2.1 iv.2.2.2.2 x
noncomputable def Qa.f (a0 : ((List Bool) × ((List Bool) × ((List Bool) × (List ByteArray))))) (a1 : (List (ByteArray × (ByteArray × (ByteArray × (ByteArray × (Int × ((List ByteArray) × ByteArray)))))))) (a2 : Int) : Option Bool :=
 (ck (0 ≤ a2 ∧ a2 < ((List.length a1 : Nat) : Int)) (let y1 : (List ByteArray) := (rd (ByteArray.empty, (ByteArray.empty, (ByteArray.empty, (ByteArray.empty, ((0 : Int), (([] : (List ByteArray)), ByteArray.empty)))))) a1 a2).2.2.2.2.2.1; (let y2 : Int := ((List.length y1 : Nat) : Int); (ob (Qa.l0 a1 a2 a0 y1 y2 (0 : Int)) fun r9 => (Z1g r9 (fun a10 => (some a10)) (fun b11 => (some false)))))))
noncomputable def Qa.fn : TFn := ⟨[(.pair (.slice .bool) (.pair (.slice .bool) (.pair (.slice .bool) (.slice .str)))), (.slice (.pair .str (.pair .str (.pair .str (.pair .str (.pair (.int .i64) (.pair (.slice .str) .str))))))), (.int .i64)], [.bool], fun x => Qa.f x.1 x.2.1 x.2.2⟩
noncomputable def Qa.C : Cx := ⟨T, TYt, lkF [], lkO [], lkD [(9, 18, [(0, true), (1, true), (2, true), (3, true), (4, true), (5, true), (6, true), (7, true), (8, true), (9, true), (10, true), (11, true), (12, true), (13, true), (14, true), (15, true), (16, true), (17, true)], none)], lkP [], [3], [], false, [], [], lkS [], 57, lkW [], 0⟩
theorem Qa.hC : CxOK Tryz.prog Qa.C := cxq FsOK.nil
noncomputable def Qa.root : Code := Z6 Tryz.f49
theorem Qa.h1 : LsOK Tryz.prog Qa.C Qa.root (lkL [([0, 1, 0, 1, 1, 0, 0, 1, 1, 0, 0, 1, 0, 1], Qa.e1)]) :=
 LsOK.cons Qa.hC (LsOK.nil) (by kernel_rfl) (fun iv x => by kernel_rfl)
theorem Qa.h0 : LsOK Tryz.prog Qa.C Qa.root (lkL [([0, 1, 0, 1], Qa.e0), ([0, 1, 0, 1, 1, 0, 0, 1, 1, 0, 0, 1, 0, 1], Qa.e1)]) :=
 LsOK.cons Qa.hC (Qa.h1) (by kernel_rfl) (fun iv x => by kernel_rfl)
theorem Qa.ok : FnOK Tryz.prog 49 Qa.fn := .qq Qa.root Qa.hC Tryz.func49 (lkL [([0, 1, 0, 1], Qa.e0), ([0, 1, 0, 1, 1, 0, 0, 1, 1, 0, 0, 1, 0, 1], Qa.e1)]) [.tmp 6] Qa.h0 fun x => by kernel_rfl
noncomputable def Q1.s0 (v0_0 : (List (ByteArray × (ByteArray × (ByteArray × (ByteArray × (Int × ((List ByteArray) × ByteArray)))))))) (v0_21 : (List (Int × (ByteArray × Int)))) (v0_22 : Int) (x0_23 : Int) (o0_1 : (List Bool)) (o0_2 : (List Bool)) (o0_3 : (List Bool)) : Option ((Int × ((List Bool) × ((List Bool) × (List Bool)))) ⊕ ((List Bool) × ((List Bool) × (List Bool)))) :=
 (cb (decide (x0_23 < v0_22)) (ck (0 ≤ x0_23 ∧ x0_23 < ((List.length v0_21 : Nat) : Int)) (let y4 : (Int × (ByteArray × Int)) := (rd ((0 : Int), (ByteArray.empty, (0 : Int))) v0_21 x0_23); (ck (0 ≤ y4.1 ∧ y4.1 < ((List.length o0_1 : Nat) : Int)) (ck ((Int.toNat y4.1) < List.length o0_1) (ck (0 ≤ y4.1 ∧ y4.1 < ((List.length o0_2 : Nat) : Int)) (ck ((Int.toNat y4.1) < List.length o0_2) (cb (List.getD o0_2 (Int.toNat y4.1) false) (ck (0 ≤ y4.1 ∧ y4.1 < ((List.length o0_2 : Nat) : Int)) (ck ((Int.toNat y4.1) < List.length o0_2) (ck (InR (x0_23 + (1 : Int))) (some (.inl ((x0_23 + (1 : Int)), (List.set o0_1 (Int.toNat y4.1) true), (List.set o0_2 (Int.toNat y4.1) true), o0_3)))))) (ck (0 ≤ y4.1 ∧ y4.1 < ((List.length v0_0 : Nat) : Int)) (let y5 : ByteArray := (rd (ByteArray.empty, (ByteArray.empty, (ByteArray.empty, (ByteArray.empty, ((0 : Int), (([] : (List ByteArray)), ByteArray.empty)))))) v0_0 y4.1).2.2.1; (ck (0 ≤ y4.1 ∧ y4.1 < ((List.length o0_2 : Nat) : Int)) (ck ((Int.toNat y4.1) < List.length o0_2) (ck (InR (x0_23 + (1 : Int))) (some (.inl ((x0_23 + (1 : Int)), (List.set o0_1 (Int.toNat y4.1) true), (List.set o0_2 (Int.toNat y4.1) (!decide (y4.2.1 = y5))), o0_3))))))))))))))) (some (.inr (o0_1, o0_2, o0_3))))
noncomputable def Q1.l0 (v0_0 : (List (ByteArray × (ByteArray × (ByteArray × (ByteArray × (Int × ((List ByteArray) × ByteArray)))))))) (v0_21 : (List (Int × (ByteArray × Int)))) (v0_22 : Int) (x0_23 : Int) (o0_1 : (List Bool)) (o0_2 : (List Bool)) (o0_3 : (List Bool)) : Option ((List Bool) × ((List Bool) × (List Bool))) :=
 Zj (fun (x : (Int × ((List Bool) × ((List Bool) × (List Bool))))) => Q1.s0 v0_0 v0_21 v0_22 x.1 x.2.1 x.2.2.1 x.2.2.2) (x0_23, o0_1, o0_2, o0_3)
noncomputable def Q1.e0 : Ent where
 pre := []
 inv := [(0, .val (.slice (.pair .str (.pair .str (.pair .str (.pair .str (.pair (.int .i64) (.pair (.slice .str) .str)))))))), (21, .val (.slice (.pair (.int .i64) (.pair .str (.int .i64))))), (22, .val (.int .i64))]
 car := ⟨[(4, .ptr 0 4), (5, .ptr 4 4), (23, .val (.int .i64))], [.box 56 [.nil, .nil, .nil, .nil], .row 4 .bool, .row 4 .bool, .row 4 .bool, .box 56 [.own 1 1, .own 2 1, .own 3 1, .nil]]⟩
 exits := [(.exit 0, ⟨[(4, .ptr 0 4), (5, .ptr 4 4)], [.box 56 [.nil, .nil, .nil, .nil], .row 4 .bool, .row 4 .bool, .row 4 .bool, .box 56 [.own 1 1, .own 2 1, .own 3 1, .nil]]⟩)]
 step := fun iv x => Q1.s0 iv.1 iv.2.1 iv.2.2 x.1 x.2.1 x.2.2.1 x.2.2.2
noncomputable def Q1.s1 (v1_55 : (List (ByteArray × (ByteArray × (ByteArray × (ByteArray × (Int × ((List ByteArray) × ByteArray)))))))) (v1_56 : Int) (x1_57 : Int) (o1_1 : (List Bool)) (o1_2 : (List Bool)) (o1_3 : (List Bool)) (o1_5 : (List ByteArray)) (o1_6 : (List ByteArray)) : Option ((Int × ((List Bool) × ((List Bool) × ((List Bool) × ((List ByteArray) × (List ByteArray)))))) ⊕ ((List Bool) × ((List Bool) × ((List Bool) × ((List ByteArray) × (List ByteArray)))))) :=
 (cb (decide (x1_57 < v1_56)) (ck (0 ≤ x1_57 ∧ x1_57 < ((List.length v1_55 : Nat) : Int)) (let y9 : (ByteArray × (ByteArray × (ByteArray × (ByteArray × (Int × ((List ByteArray) × ByteArray)))))) := (rd (ByteArray.empty, (ByteArray.empty, (ByteArray.empty, (ByteArray.empty, ((0 : Int), (([] : (List ByteArray)), ByteArray.empty)))))) v1_55 x1_57); (ck (0 ≤ x1_57 ∧ x1_57 < ((List.length o1_2 : Nat) : Int)) (ck ((Int.toNat x1_57) < List.length o1_2) (cb (List.getD o1_2 (Int.toNat x1_57) false) (ck ((List.length o1_6 + List.length ([y9.2.2.2.1] : List ByteArray)) * 16 ≤ 140737488355328) (ck (InR (x1_57 + (1 : Int))) (some (.inl ((x1_57 + (1 : Int)), o1_1, o1_2, o1_3, o1_5, (o1_6 ++ ([y9.2.2.2.1] : List ByteArray))))))) (ck (InR (x1_57 + (1 : Int))) (some (.inl ((x1_57 + (1 : Int)), o1_1, o1_2, o1_3, o1_5, o1_6))))))))) (some (.inr (o1_1, o1_2, o1_3, o1_5, o1_6))))
noncomputable def Q1.l1 (v1_55 : (List (ByteArray × (ByteArray × (ByteArray × (ByteArray × (Int × ((List ByteArray) × ByteArray)))))))) (v1_56 : Int) (x1_57 : Int) (o1_1 : (List Bool)) (o1_2 : (List Bool)) (o1_3 : (List Bool)) (o1_5 : (List ByteArray)) (o1_6 : (List ByteArray)) : Option ((List Bool) × ((List Bool) × ((List Bool) × ((List ByteArray) × (List ByteArray))))) :=
 Zj (fun (x : (Int × ((List Bool) × ((List Bool) × ((List Bool) × ((List ByteArray) × (List ByteArray))))))) => Q1.s1 v1_55 v1_56 x.1 x.2.1 x.2.2.1 x.2.2.2.1 x.2.2.2.2.1 x.2.2.2.2.2) (x1_57, o1_1, o1_2, o1_3, o1_5, o1_6)
noncomputable def Q1.e1 : Ent where
 pre := [.nilB 0 3 9 .str, .nilB 4 3 9 .str]
 inv := [(0, .val (.slice (.pair .str (.pair .str (.pair .str (.pair .str (.pair (.int .i64) (.pair (.slice .str) .str)))))))), (55, .val (.slice (.pair .str (.pair .str (.pair .str (.pair .str (.pair (.int .i64) (.pair (.slice .str) .str)))))))), (56, .val (.int .i64))]
 car := ⟨[(4, .ptr 0 4), (5, .ptr 4 4), (57, .val (.int .i64))], [.box 56 [.nil, .nil, .nil, .own 5 1], .row 4 .bool, .row 4 .bool, .row 4 .bool, .box 56 [.own 1 1, .own 2 1, .own 3 1, .own 6 1], .row 9 .str, .row 9 .str]⟩
 exits := [(.exit 2, ⟨[(4, .ptr 0 4), (5, .ptr 4 4)], [.box 56 [.nil, .nil, .nil, .own 5 1], .row 4 .bool, .row 4 .bool, .row 4 .bool, .box 56 [.own 1 1, .own 2 1, .own 3 1, .own 6 1], .row 9 .str, .row 9 .str]⟩)]
 step := fun iv x => Q1.s1 iv.2.1 iv.2.2 x.1 x.2.1 x.2.2.1 x.2.2.2.1 x.2.2.2.2.1 x.2.2.2.2.2
noncomputable def Q1.s2 (v2_0 : (List (ByteArray × (ByteArray × (ByteArray × (ByteArray × (Int × ((List ByteArray) × ByteArray)))))))) (v2_83 : Int) (x2_84 : Int) (o2_1 : (List Bool)) (o2_2 : (List Bool)) (o2_3 : (List Bool)) (o2_5 : (List ByteArray)) (o2_6 : (List ByteArray)) : Option ((Int × ((List Bool) × ((List Bool) × ((List Bool) × ((List ByteArray) × (List ByteArray)))))) ⊕ ((List Bool) × ((List Bool) × ((List Bool) × ((List ByteArray) × (List ByteArray)))))) :=
 (cb (decide (x2_84 < v2_83)) (ck (0 ≤ x2_84 ∧ x2_84 < ((List.length o2_2 : Nat) : Int)) (ck ((Int.toNat x2_84) < List.length o2_2) (cb (List.getD o2_2 (Int.toNat x2_84) false) (ck (0 ≤ x2_84 ∧ x2_84 < ((List.length o2_3 : Nat) : Int)) (ck ((Int.toNat x2_84) < List.length o2_3) (ck (InR (x2_84 + (1 : Int))) (some (.inl ((x2_84 + (1 : Int)), o2_1, o2_2, (List.set o2_3 (Int.toNat x2_84) true), o2_5, o2_6)))))) (ob (Q3.f (o2_1, (o2_2, (o2_3, o2_6))) v2_0 x2_84) fun r14 => (cb r14 (ck (0 ≤ x2_84 ∧ x2_84 < ((List.length o2_3 : Nat) : Int)) (ck ((Int.toNat x2_84) < List.length o2_3) (ck (InR (x2_84 + (1 : Int))) (some (.inl ((x2_84 + (1 : Int)), o2_1, o2_2, (List.set o2_3 (Int.toNat x2_84) true), o2_5, o2_6)))))) (ob (Qa.f (o2_1, (o2_2, (o2_3, o2_6))) v2_0 x2_84) fun r15 => (ck (0 ≤ x2_84 ∧ x2_84 < ((List.length o2_3 : Nat) : Int)) (ck ((Int.toNat x2_84) < List.length o2_3) (ck (InR (x2_84 + (1 : Int))) (some (.inl ((x2_84 + (1 : Int)), o2_1, o2_2, (List.set o2_3 (Int.toNat x2_84) r15), o2_5, o2_6)))))))))))) (some (.inr (o2_1, o2_2, o2_3, o2_5, o2_6))))
noncomputable def Q1.l2 (v2_0 : (List (ByteArray × (ByteArray × (ByteArray × (ByteArray × (Int × ((List ByteArray) × ByteArray)))))))) (v2_83 : Int) (x2_84 : Int) (o2_1 : (List Bool)) (o2_2 : (List Bool)) (o2_3 : (List Bool)) (o2_5 : (List ByteArray)) (o2_6 : (List ByteArray)) : Option ((List Bool) × ((List Bool) × ((List Bool) × ((List ByteArray) × (List ByteArray))))) :=
 Zj (fun (x : (Int × ((List Bool) × ((List Bool) × ((List Bool) × ((List ByteArray) × (List ByteArray))))))) => Q1.s2 v2_0 v2_83 x.1 x.2.1 x.2.2.1 x.2.2.2.1 x.2.2.2.2.1 x.2.2.2.2.2) (x2_84, o2_1, o2_2, o2_3, o2_5, o2_6)
noncomputable def Q1.e2 : Ent where
 pre := []
 inv := [(0, .val (.slice (.pair .str (.pair .str (.pair .str (.pair .str (.pair (.int .i64) (.pair (.slice .str) .str)))))))), (83, .val (.int .i64))]
 car := ⟨[(4, .ptr 0 4), (5, .ptr 4 4), (84, .val (.int .i64))], [.box 56 [.nil, .nil, .nil, .own 5 1], .row 4 .bool, .row 4 .bool, .row 4 .bool, .box 56 [.own 1 1, .own 2 1, .own 3 1, .own 6 1], .row 9 .str, .row 9 .str]⟩
 exits := [(.exit 4, ⟨[(4, .ptr 0 4), (5, .ptr 4 4)], [.box 56 [.nil, .nil, .nil, .own 5 1], .row 4 .bool, .row 4 .bool, .row 4 .bool, .box 56 [.own 1 1, .own 2 1, .own 3 1, .own 6 1], .row 9 .str, .row 9 .str]⟩)]
 step := fun iv x => Q1.s2 iv.1 iv.2 x.1 x.2.1 x.2.2.1 x.2.2.2.1 x.2.2.2.2.1 x.2.2.2.2.2
noncomputable def Q1.f (a0 : (List (ByteArray × (ByteArray × (ByteArray × (ByteArray × (Int × ((List ByteArray) × ByteArray)))))))) (a1 : (List (Int × (ByteArray × Int)))) : Option ((List Bool) × ((List Bool) × ((List Bool) × (List ByteArray)))) :=
 (both (ck (0 ≤ ((List.length a0 : Nat) : Int) ∧ ((List.length a0 : Nat) : Int) * (1 : Int) ≤ 140737488355328) (both (ck (0 ≤ ((List.length a0 : Nat) : Int) ∧ ((List.length a0 : Nat) : Int) * (1 : Int) ≤ 140737488355328) (mix (.node .leaf .leaf) (ck (0 ≤ ((List.length a0 : Nat) : Int) ∧ ((List.length a0 : Nat) : Int) * (1 : Int) ≤ 140737488355328) (let y1 : Int := ((List.length a1 : Nat) : Int); (ob (Q1.l0 a0 a1 y1 (0 : Int) (List.replicate (Int.toNat ((List.length a0 : Nat) : Int)) false) (List.replicate (Int.toNat ((List.length a0 : Nat) : Int)) false) (List.replicate (Int.toNat ((List.length a0 : Nat) : Int)) false)) fun r6 => (let y7 : Int := ((List.length a0 : Nat) : Int); (ob (Q1.l1 a0 y7 (0 : Int) r6.1 r6.2.1 r6.2.2 ([] : List ByteArray) ([] : List ByteArray)) fun r10 => (ck (Option.isSome (Z0 r10.2.2.2.2) = true) (ck (Option.isSome (Z4 (Option.getD (Z0 r10.2.2.2.2) [])) = true) (let y11 : Int := ((List.length a0 : Nat) : Int); (ob (Q1.l2 a0 y11 (0 : Int) r10.1 r10.2.1 r10.2.2.1 r10.2.2.2.1 (List.take (List.length (Z1w (Option.getD (Z0 r10.2.2.2.2) []))) (Option.getD (Z4 (Option.getD (Z0 r10.2.2.2.2) [])) []))) fun r16 => (some (r16.1, (r16.2.1, (r16.2.2.1, r16.2.2.2.2))))))))))))))) (both (ck (0 ≤ ((List.length a0 : Nat) : Int) ∧ ((List.length a0 : Nat) : Int) * (1 : Int) ≤ 140737488355328) (mix (.node .leaf .leaf) (ck (0 ≤ ((List.length a0 : Nat) : Int) ∧ ((List.length a0 : Nat) : Int) * (1 : Int) ≤ 140737488355328) (let y1 : Int := ((List.length a1 : Nat) : Int); (ob (Q1.l0 a0 a1 y1 (0 : Int) (List.replicate (Int.toNat ((List.length a0 : Nat) : Int)) false) (List.replicate (Int.toNat ((List.length a0 : Nat) : Int)) false) (List.replicate (Int.toNat ((List.length a0 : Nat) : Int)) false)) fun r2 => (let y3 : Int := ((List.length a0 : Nat) : Int); (ob (Q1.l1 a0 y3 (0 : Int) r2.1 r2.2.1 r2.2.2 ([] : List ByteArray) ([] : List ByteArray)) fun r4 => (ck (Option.isSome (Z0 r4.2.2.2.2) = true) (ck (Option.isSome (Z4 (Option.getD (Z0 r4.2.2.2.2) [])) = true) (let y5 : Int := ((List.length a0 : Nat) : Int); (ob (Q1.l2 a0 y5 (0 : Int) r4.1 r4.2.1 r4.2.2.1 r4.2.2.2.1 (List.take (List.length (Z1w (Option.getD (Z0 r4.2.2.2.2) []))) (Option.getD (Z4 (Option.getD (Z0 r4.2.2.2.2) [])) []))) fun r6 => (some (r6.1, (r6.2.1, (r6.2.2.1, r6.2.2.2.2))))))))))))))) (mix (.node .leaf .leaf) (ck (0 ≤ ((List.length a0 : Nat) : Int) ∧ ((List.length a0 : Nat) : Int) * (1 : Int) ≤ 140737488355328) (ck (0 ≤ ((List.length a0 : Nat) : Int) ∧ ((List.length a0 : Nat) : Int) * (1 : Int) ≤ 140737488355328) (let y1 : Int := ((List.length a1 : Nat) : Int); (ob (Q1.l0 a0 a1 y1 (0 : Int) (List.replicate (Int.toNat ((List.length a0 : Nat) : Int)) false) (List.replicate (Int.toNat ((List.length a0 : Nat) : Int)) false) (List.replicate (Int.toNat ((List.length a0 : Nat) : Int)) false)) fun r2 => (let y3 : Int := ((List.length a0 : Nat) : Int); (ob (Q1.l1 a0 y3 (0 : Int) r2.1 r2.2.1 r2.2.2 ([] : List ByteArray) ([] : List ByteArray)) fun r4 => (ck (Option.isSome (Z0 r4.2.2.2.2) = true) (ck (Option.isSome (Z4 (Option.getD (Z0 r4.2.2.2.2) [])) = true) (let y5 : Int := ((List.length a0 : Nat) : Int); (ob (Q1.l2 a0 y5 (0 : Int) r4.1 r4.2.1 r4.2.2.1 r4.2.2.2.1 (List.take (List.length (Z1w (Option.getD (Z0 r4.2.2.2.2) []))) (Option.getD (Z4 (Option.getD (Z0 r4.2.2.2.2) [])) []))) fun r6 => (some (r6.1, (r6.2.1, (r6.2.2.1, r6.2.2.2.2)))))))))))))))))) (both (ck (0 ≤ ((List.length a0 : Nat) : Int) ∧ ((List.length a0 : Nat) : Int) * (1 : Int) ≤ 140737488355328) (both (ck (0 ≤ ((List.length a0 : Nat) : Int) ∧ ((List.length a0 : Nat) : Int) * (1 : Int) ≤ 140737488355328) (mix (.node .leaf .leaf) (ck (0 ≤ ((List.length a0 : Nat) : Int) ∧ ((List.length a0 : Nat) : Int) * (1 : Int) ≤ 140737488355328) (let y1 : Int := ((List.length a1 : Nat) : Int); (ob (Q1.l0 a0 a1 y1 (0 : Int) (List.replicate (Int.toNat ((List.length a0 : Nat) : Int)) false) (List.replicate (Int.toNat ((List.length a0 : Nat) : Int)) false) (List.replicate (Int.toNat ((List.length a0 : Nat) : Int)) false)) fun r2 => (let y3 : Int := ((List.length a0 : Nat) : Int); (ob (Q1.l1 a0 y3 (0 : Int) r2.1 r2.2.1 r2.2.2 ([] : List ByteArray) ([] : List ByteArray)) fun r4 => (ck (Option.isSome (Z0 r4.2.2.2.2) = true) (ck (Option.isSome (Z4 (Option.getD (Z0 r4.2.2.2.2) [])) = true) (let y5 : Int := ((List.length a0 : Nat) : Int); (ob (Q1.l2 a0 y5 (0 : Int) r4.1 r4.2.1 r4.2.2.1 r4.2.2.2.1 (List.take (List.length (Z1w (Option.getD (Z0 r4.2.2.2.2) []))) (Option.getD (Z4 (Option.getD (Z0 r4.2.2.2.2) [])) []))) fun r6 => (some (r6.1, (r6.2.1, (r6.2.2.1, r6.2.2.2.2))))))))))))))) (both (ck (0 ≤ ((List.length a0 : Nat) : Int) ∧ ((List.length a0 : Nat) : Int) * (1 : Int) ≤ 140737488355328) (mix (.node .leaf .leaf) (ck (0 ≤ ((List.length a0 : Nat) : Int) ∧ ((List.length a0 : Nat) : Int) * (1 : Int) ≤ 140737488355328) (let y1 : Int := ((List.length a1 : Nat) : Int); (ob (Q1.l0 a0 a1 y1 (0 : Int) (List.replicate (Int.toNat ((List.length a0 : Nat) : Int)) false) (List.replicate (Int.toNat ((List.length a0 : Nat) : Int)) false) (List.replicate (Int.toNat ((List.length a0 : Nat) : Int)) false)) fun r2 => (let y3 : Int := ((List.length a0 : Nat) : Int); (ob (Q1.l1 a0 y3 (0 : Int) r2.1 r2.2.1 r2.2.2 ([] : List ByteArray) ([] : List ByteArray)) fun r4 => (ck (Option.isSome (Z0 r4.2.2.2.2) = true) (ck (Option.isSome (Z4 (Option.getD (Z0 r4.2.2.2.2) [])) = true) (let y5 : Int := ((List.length a0 : Nat) : Int); (ob (Q1.l2 a0 y5 (0 : Int) r4.1 r4.2.1 r4.2.2.1 r4.2.2.2.1 (List.take (List.length (Z1w (Option.getD (Z0 r4.2.2.2.2) []))) (Option.getD (Z4 (Option.getD (Z0 r4.2.2.2.2) [])) []))) fun r6 => (some (r6.1, (r6.2.1, (r6.2.2.1, r6.2.2.2.2))))))))))))))) (mix (.node .leaf .leaf) (ck (0 ≤ ((List.length a0 : Nat) : Int) ∧ ((List.length a0 : Nat) : Int) * (1 : Int) ≤ 140737488355328) (ck (0 ≤ ((List.length a0 : Nat) : Int) ∧ ((List.length a0 : Nat) : Int) * (1 : Int) ≤ 140737488355328) (let y1 : Int := ((List.length a1 : Nat) : Int); (ob (Q1.l0 a0 a1 y1 (0 : Int) (List.replicate (Int.toNat ((List.length a0 : Nat) : Int)) false) (List.replicate (Int.toNat ((List.length a0 : Nat) : Int)) false) (List.replicate (Int.toNat ((List.length a0 : Nat) : Int)) false)) fun r2 => (let y3 : Int := ((List.length a0 : Nat) : Int); (ob (Q1.l1 a0 y3 (0 : Int) r2.1 r2.2.1 r2.2.2 ([] : List ByteArray) ([] : List ByteArray)) fun r4 => (ck (Option.isSome (Z0 r4.2.2.2.2) = true) (ck (Option.isSome (Z4 (Option.getD (Z0 r4.2.2.2.2) [])) = true) (let y5 : Int := ((List.length a0 : Nat) : Int); (ob (Q1.l2 a0 y5 (0 : Int) r4.1 r4.2.1 r4.2.2.1 r4.2.2.2.1 (List.take (List.length (Z1w (Option.getD (Z0 r4.2.2.2.2) []))) (Option.getD (Z4 (Option.getD (Z0 r4.2.2.2.2) [])) []))) fun r6 => (some (r6.1, (r6.2.1, (r6.2.2.1, r6.2.2.2.2)))))))))))))))))) (both (ck (0 ≤ ((List.length a0 : Nat) : Int) ∧ ((List.length a0 : Nat) : Int) * (1 : Int) ≤ 140737488355328) (both (ck (0 ≤ ((List.length a0 : Nat) : Int) ∧ ((List.length a0 : Nat) : Int) * (1 : Int) ≤ 140737488355328) (mix (.node .leaf .leaf) (ck (0 ≤ ((List.length a0 : Nat) : Int) ∧ ((List.length a0 : Nat) : Int) * (1 : Int) ≤ 140737488355328) (let y1 : Int := ((List.length a1 : Nat) : Int); (ob (Q1.l0 a0 a1 y1 (0 : Int) (List.replicate (Int.toNat ((List.length a0 : Nat) : Int)) false) (List.replicate (Int.toNat ((List.length a0 : Nat) : Int)) false) (List.replicate (Int.toNat ((List.length a0 : Nat) : Int)) false)) fun r2 => (let y3 : Int := ((List.length a0 : Nat) : Int); (ob (Q1.l1 a0 y3 (0 : Int) r2.1 r2.2.1 r2.2.2 ([] : List ByteArray) ([] : List ByteArray)) fun r4 => (ck (Option.isSome (Z0 r4.2.2.2.2) = true) (ck (Option.isSome (Z4 (Option.getD (Z0 r4.2.2.2.2) [])) = true) (let y5 : Int := ((List.length a0 : Nat) : Int); (ob (Q1.l2 a0 y5 (0 : Int) r4.1 r4.2.1 r4.2.2.1 r4.2.2.2.1 (List.take (List.length (Z1w (Option.getD (Z0 r4.2.2.2.2) []))) (Option.getD (Z4 (Option.getD (Z0 r4.2.2.2.2) [])) []))) fun r6 => (some (r6.1, (r6.2.1, (r6.2.2.1, r6.2.2.2.2))))))))))))))) (both (ck (0 ≤ ((List.length a0 : Nat) : Int) ∧ ((List.length a0 : Nat) : Int) * (1 : Int) ≤ 140737488355328) (mix (.node .leaf .leaf) (ck (0 ≤ ((List.length a0 : Nat) : Int) ∧ ((List.length a0 : Nat) : Int) * (1 : Int) ≤ 140737488355328) (let y1 : Int := ((List.length a1 : Nat) : Int); (ob (Q1.l0 a0 a1 y1 (0 : Int) (List.replicate (Int.toNat ((List.length a0 : Nat) : Int)) false) (List.replicate (Int.toNat ((List.length a0 : Nat) : Int)) false) (List.replicate (Int.toNat ((List.length a0 : Nat) : Int)) false)) fun r2 => (let y3 : Int := ((List.length a0 : Nat) : Int); (ob (Q1.l1 a0 y3 (0 : Int) r2.1 r2.2.1 r2.2.2 ([] : List ByteArray) ([] : List ByteArray)) fun r4 => (ck (Option.isSome (Z0 r4.2.2.2.2) = true) (ck (Option.isSome (Z4 (Option.getD (Z0 r4.2.2.2.2) [])) = true) (let y5 : Int := ((List.length a0 : Nat) : Int); (ob (Q1.l2 a0 y5 (0 : Int) r4.1 r4.2.1 r4.2.2.1 r4.2.2.2.1 (List.take (List.length (Z1w (Option.getD (Z0 r4.2.2.2.2) []))) (Option.getD (Z4 (Option.getD (Z0 r4.2.2.2.2) [])) []))) fun r6 => (some (r6.1, (r6.2.1, (r6.2.2.1, r6.2.2.2.2))))))))))))))) (mix (.node .leaf .leaf) (ck (0 ≤ ((List.length a0 : Nat) : Int) ∧ ((List.length a0 : Nat) : Int) * (1 : Int) ≤ 140737488355328) (ck (0 ≤ ((List.length a0 : Nat) : Int) ∧ ((List.length a0 : Nat) : Int) * (1 : Int) ≤ 140737488355328) (let y1 : Int := ((List.length a1 : Nat) : Int); (ob (Q1.l0 a0 a1 y1 (0 : Int) (List.replicate (Int.toNat ((List.length a0 : Nat) : Int)) false) (List.replicate (Int.toNat ((List.length a0 : Nat) : Int)) false) (List.replicate (Int.toNat ((List.length a0 : Nat) : Int)) false)) fun r2 => (let y3 : Int := ((List.length a0 : Nat) : Int); (ob (Q1.l1 a0 y3 (0 : Int) r2.1 r2.2.1 r2.2.2 ([] : List ByteArray) ([] : List ByteArray)) fun r4 => (ck (Option.isSome (Z0 r4.2.2.2.2) = true) (ck (Option.isSome (Z4 (Option.getD (Z0 r4.2.2.2.2) [])) = true) (let y5 : Int := ((List.length a0 : Nat) : Int); (ob (Q1.l2 a0 y5 (0 : Int) r4.1 r4.2.1 r4.2.2.1 r4.2.2.2.1 (List.take (List.length (Z1w (Option.getD (Z0 r4.2.2.2.2) []))) (Option.getD (Z4 (Option.getD (Z0 r4.2.2.2.2) [])) []))) fun r6 => (some (r6.1, (r6.2.1, (r6.2.2.1, r6.2.2.2.2)))))))))))))))))) (mix (.node .leaf (.node .leaf .leaf)) (ck (0 ≤ ((List.length a0 : Nat) : Int) ∧ ((List.length a0 : Nat) : Int) * (1 : Int) ≤ 140737488355328) (mix (.node .leaf .leaf) (ck (0 ≤ ((List.length a0 : Nat) : Int) ∧ ((List.length a0 : Nat) : Int) * (1 : Int) ≤ 140737488355328) (ck (0 ≤ ((List.length a0 : Nat) : Int) ∧ ((List.length a0 : Nat) : Int) * (1 : Int) ≤ 140737488355328) (let y1 : Int := ((List.length a1 : Nat) : Int); (ob (Q1.l0 a0 a1 y1 (0 : Int) (List.replicate (Int.toNat ((List.length a0 : Nat) : Int)) false) (List.replicate (Int.toNat ((List.length a0 : Nat) : Int)) false) (List.replicate (Int.toNat ((List.length a0 : Nat) : Int)) false)) fun r2 => (let y3 : Int := ((List.length a0 : Nat) : Int); (ob (Q1.l1 a0 y3 (0 : Int) r2.1 r2.2.1 r2.2.2 ([] : List ByteArray) ([] : List ByteArray)) fun r4 => (ck (Option.isSome (Z0 r4.2.2.2.2) = true) (ck (Option.isSome (Z4 (Option.getD (Z0 r4.2.2.2.2) [])) = true) (let y5 : Int := ((List.length a0 : Nat) : Int); (ob (Q1.l2 a0 y5 (0 : Int) r4.1 r4.2.1 r4.2.2.1 r4.2.2.2.1 (List.take (List.length (Z1w (Option.getD (Z0 r4.2.2.2.2) []))) (Option.getD (Z4 (Option.getD (Z0 r4.2.2.2.2) [])) []))) fun r6 => (some (r6.1, (r6.2.1, (r6.2.2.1, r6.2.2.2.2))))))))))))))))))))
noncomputable def Q1.fn : TFn := ⟨[(.slice (.pair .str (.pair .str (.pair .str (.pair .str (.pair (.int .i64) (.pair (.slice .str) .str))))))), (.slice (.pair (.int .i64) (.pair .str (.int .i64))))], [(.pair (.slice .bool) (.pair (.slice .bool) (.pair (.slice .bool) (.slice .str))))], fun x => Q1.f x.1 x.2⟩
noncomputable def Q1.C : Cx := ⟨T, TYt, lkF [((48, [0, 0, 0]), Q3.fn), ((49, [0, 0, 0]), Qa.fn)], lkO [], lkD [(6, 21, [(0, true), (1, true), (2, true), (3, true), (4, true), (5, true), (6, true), (7, true), (8, true), (9, true), (10, true), (11, true), (12, true), (13, true), (14, true), (15, true), (16, true), (17, true), (18, true), (19, true), (20, true)], none), (19, 20, [(0, true), (1, true), (2, true), (3, true), (4, true), (5, true), (6, true), (7, true), (8, true), (9, true), (10, true), (11, true), (12, false), (13, true), (14, true), (15, true), (16, true), (17, true), (18, false), (19, true)], none)], lkP [(1, 11, (.take 0 (.take 1 (.take 3 (.take 4 (.take 6 (.take 7 (.alt 2 (.alt 5 (.alt 8 (.take 9 (.alt 10 .done .no)) (.alt 10 (.alt 8 (.take 9 (.swp 2 .done)) .no) .no)) (.alt 8 (.alt 5 (.take 9 (.alt 10 (.swp 3 .done) .no)) (.alt 10 (.alt 5 (.take 9 (.swp 2 (.swp 3 .done))) .no) .no)) (.alt 10 (.alt 5 (.alt 8 (.take 9 (.swp 3 (.swp 2 .done))) .no) (.alt 8 (.alt 5 (.take 9 (.swp 3 (.swp 2 (.swp 3 .done)))) .no) .no)) .no))) (.alt 5 (.alt 2 (.alt 8 (.take 9 (.alt 10 (.swp 4 .done) .no)) (.alt 10 (.alt 8 (.take 9 (.swp 4 (.swp 2 .done))) .no) .no)) (.alt 8 (.alt 2 (.take 9 (.alt 10 (.swp 3 (.swp 4 .done)) .no)) (.alt 10 (.alt 2 (.take 9 (.swp 2 (.swp 3 (.swp 4 .done)))) .no) .no)) (.alt 10 (.alt 2 (.alt 8 (.take 9 (.swp 3 (.swp 2 (.swp 4 .done)))) .no) (.alt 8 (.alt 2 (.take 9 (.swp 3 (.swp 2 (.swp 3 (.swp 4 .done))))) .no) .no)) .no))) (.alt 8 (.alt 2 (.alt 5 (.take 9 (.alt 10 (.swp 4 (.swp 3 .done)) .no)) (.alt 10 (.alt 5 (.take 9 (.swp 4 (.swp 2 (.swp 3 .done)))) .no) .no)) (.alt 5 (.alt 2 (.take 9 (.alt 10 (.swp 4 (.swp 3 (.swp 4 .done))) .no)) (.alt 10 (.alt 2 (.take 9 (.swp 4 (.swp 2 (.swp 3 (.swp 4 .done))))) .no) .no)) (.alt 10 (.alt 2 (.alt 5 (.take 9 (.swp 3 (.swp 2 (.swp 4 (.swp 3 .done))))) .no) (.alt 5 (.alt 2 (.take 9 (.swp 3 (.swp 2 (.swp 4 (.swp 3 (.swp 4 .done)))))) .no) .no)) .no))) (.alt 10 (.alt 2 (.alt 5 (.alt 8 (.take 9 (.swp 4 (.swp 3 (.swp 2 .done)))) .no) (.alt 8 (.alt 5 (.take 9 (.swp 4 (.swp 3 (.swp 2 (.swp 3 .done))))) .no) .no)) (.alt 5 (.alt 2 (.alt 8 (.take 9 (.swp 4 (.swp 3 (.swp 2 (.swp 4 .done))))) .no) (.alt 8 (.alt 2 (.take 9 (.swp 4 (.swp 3 (.swp 2 (.swp 3 (.swp 4 .done)))))) .no) .no)) (.alt 8 (.alt 2 (.alt 5 (.take 9 (.swp 4 (.swp 3 (.swp 2 (.swp 4 (.swp 3 .done)))))) .no) (.alt 5 (.alt 2 (.take 9 (.swp 4 (.swp 3 (.swp 2 (.swp 4 (.swp 3 (.swp 4 .done))))))) .no) .no)) .no))) .no)))))))))))], [7, 9], [], false, [], [], lkS [((46, 1000000), srt_46_1000000), ((47, 1000000), srt_47_1000000)], 110, lkW [], 0⟩
theorem Q1.hC : CxOK Tryz.prog Q1.C := ⟨tabOK, FsOK.cons Q3.ok (FsOK.cons Qa.ok (FsOK.nil)), OsOK.nil, mixed, (fun t h => by cases h), (fun t e h => by cases h), (SsOK.cons srt_46_1000000_ok ((SsOK.cons srt_47_1000000_ok (SsOK.nil)))), WsOK.nil⟩
noncomputable def Q1.root : Code := Z6 Tryz.f26
theorem Q1.h0 : LsOK Tryz.prog Q1.C Q1.root (lkL [([0, 1, 0, 1, 1], Q1.e0)]) :=
 LsOK.cons Q1.hC (LsOK.nil) (by kernel_rfl) (fun iv x => by kernel_rfl)
theorem Q1.h1 : LsOK Tryz.prog Q1.C Q1.root (lkL [([0, 1, 0, 1, 1, 1], Q1.e1), ([0, 1, 0, 1, 1], Q1.e0)]) :=
 LsOK.cons Q1.hC (Q1.h0) (by kernel_rfl) (fun iv x => by kernel_rfl)
theorem Q1.h2 : LsOK Tryz.prog Q1.C Q1.root (lkL [([0, 1, 0, 1, 1, 1, 1, 1, 1], Q1.e2), ([0, 1, 0, 1, 1, 1], Q1.e1), ([0, 1, 0, 1, 1], Q1.e0)]) :=
 LsOK.cons Q1.hC (Q1.h1) (by kernel_rfl) (fun iv x => by kernel_rfl)
theorem Q1.ok : FnOK Tryz.prog 26 Q1.fn := .qq Q1.root Q1.hC Tryz.func26 (lkL [([0, 1, 0, 1, 1, 1, 1, 1, 1], Q1.e2), ([0, 1, 0, 1, 1, 1], Q1.e1), ([0, 1, 0, 1, 1], Q1.e0)]) [.cell 4 56] Q1.h2 fun x => by kernel_rfl
noncomputable def Q10.s0 (v0_1 : ByteArray) (v0_7 : (List (ByteArray × (ByteArray × ((List ByteArray) × (Int × Int)))))) (v0_8 : Int) (x0_9 : Int) : Option (Int ⊕ (Int ⊕ Unit)) :=
 (cb (decide (x0_9 < v0_8)) (ck (0 ≤ x0_9 ∧ x0_9 < ((List.length v0_7 : Nat) : Int)) (let y3 : (ByteArray × (ByteArray × ((List ByteArray) × (Int × Int)))) := (rd (ByteArray.empty, (ByteArray.empty, (([] : (List ByteArray)), ((0 : Int), (0 : Int))))) v0_7 x0_9); (cb (decide (y3.1 = v0_1)) (some (.inr (.inl x0_9))) (ck (InR (x0_9 + (1 : Int))) (some (.inl (x0_9 + (1 : Int)))))))) (some (.inr (.inr ()))))
noncomputable def Q10.l0 (v0_1 : ByteArray) (v0_7 : (List (ByteArray × (ByteArray × ((List ByteArray) × (Int × Int)))))) (v0_8 : Int) (x0_9 : Int) : Option (Int ⊕ Unit) :=
 Zj (fun (x : Int) => Q10.s0 v0_1 v0_7 v0_8 x) x0_9
noncomputable def Q10.e0 : Ent where
 pre := []
 inv := [(1, .val .str), (7, .val (.slice (.pair .str (.pair .str (.pair (.slice .str) (.pair (.int .i64) (.int .i64))))))), (8, .val (.int .i64))]
 car := ⟨[(9, .val (.int .i64))], []⟩
 exits := [(.ret, ⟨[(4, .val (.int .i64))], []⟩), (.exit 0, ⟨[], []⟩)]
 step := fun iv x => Q10.s0 iv.1 iv.2.1 iv.2.2 x
noncomputable def Q10.f (a0 : (List (ByteArray × (ByteArray × ((List ByteArray) × (Int × Int)))))) (a1 : ByteArray) : Option Int :=
 (let y1 : Int := ((List.length a0 : Nat) : Int); (ob (Q10.l0 a1 a0 y1 (0 : Int)) fun r4 => (Z1g r4 (fun a5 => (some a5)) (fun b6 => (some (-1 : Int))))))
noncomputable def Q10.fn : TFn := ⟨[(.slice (.pair .str (.pair .str (.pair (.slice .str) (.pair (.int .i64) (.int .i64)))))), .str], [(.int .i64)], fun x => Q10.f x.1 x.2⟩
noncomputable def Q10.C : Cx := ⟨T, TYt, lkF [], lkO [], lkD [], lkP [], [6], [], false, [], [], lkS [], 20, lkW [], 0⟩
theorem Q10.hC : CxOK Tryz.prog Q10.C := cxq FsOK.nil
noncomputable def Q10.root : Code := Z6 Tryz.f50
theorem Q10.h0 : LsOK Tryz.prog Q10.C Q10.root (lkL [([0, 1, 0, 1], Q10.e0)]) :=
 LsOK.cons Q10.hC (LsOK.nil) (by kernel_rfl) (fun iv x => by kernel_rfl)
theorem Q10.ok : FnOK Tryz.prog 50 Q10.fn := .qq Q10.root Q10.hC Tryz.func50 (lkL [([0, 1, 0, 1], Q10.e0)]) [.tmp 4] Q10.h0 fun x => by kernel_rfl
noncomputable def Q2x.f (a0 : (ByteArray × (ByteArray × (ByteArray × (ByteArray × (Int × ((List ByteArray) × ByteArray))))))) : Option ByteArray :=
 (ob (Q30.f a0.2.2.2.2.1) fun r1 => (ck ((List.length ([a0.1, a0.2.1, a0.2.2.1, a0.2.2.2.1, r1] : List ByteArray) + List.length a0.2.2.2.2.2.1) * 16 ≤ 140737488355328) (ob (Q2z.f (([a0.1, a0.2.1, a0.2.2.1, a0.2.2.2.1, r1] : List ByteArray) ++ a0.2.2.2.2.2.1) Q37) fun r2 => (some r2))))
noncomputable def Q2x.fn : TFn := ⟨[(.pair .str (.pair .str (.pair .str (.pair .str (.pair (.int .i64) (.pair (.slice .str) .str))))))], [.str], fun x => Q2x.f x⟩
noncomputable def Q2x.C : Cx := ⟨T, TYt, lkF [((89, [0, 0]), Q2z.fn), ((90, [0]), Q30.fn)], lkO [], lkD [(1, 14, [(0, true), (1, true), (2, true), (3, true), (4, true), (5, true), (6, true), (7, true), (8, true), (9, true), (12, true), (13, true), (10, false), (11, false)], none)], lkP [], [1], [], false, [], [], lkS [], 19, lkW [], 0⟩
theorem Q2x.hC : CxOK Tryz.prog Q2x.C := cxq (FsOK.cons Q2z.ok (FsOK.cons Q30.ok (FsOK.nil)))
noncomputable def Q2x.root : Code := Z6 Tryz.f78
theorem Q2x.ok : FnOK Tryz.prog 78 Q2x.fn := .qq Q2x.root Q2x.hC Tryz.func78 (lkL []) [.tmp 2] LsOK.nil fun x => by kernel_rfl
noncomputable def Qx.s0 (v0_0 : (List UInt8)) (x0_3 : Int) (x0_4 : Int) : Option ((Int × Int) ⊕ Int) :=
 (let y6 : Int := ((List.length v0_0 : Nat) : Int); (cb (decide (x0_4 < y6)) (ck (0 ≤ x0_4 ∧ x0_4 < ((List.length v0_0 : Nat) : Int)) (let y7 : UInt8 := (rd (0 : UInt8) v0_0 x0_4); (let y8 : Int := (IntKind.u64.wrap ((UInt8.toNat y7 : Nat) : Int)); (let y9 : Int := (IntKind.u64.wrap ((BitVec.toNat (BitVec.ofInt (IntKind.bits .u64) x0_3 ^^^ BitVec.ofInt (IntKind.bits .u64) y8) : Nat) : Int)); (let y10 : Int := (IntKind.u64.wrap (y9 * (1099511628211 : Int))); (ck (InR (x0_4 + (1 : Int))) (some (.inl (y10, (x0_4 + (1 : Int))))))))))) (some (.inr x0_3))))
noncomputable def Qx.l0 (v0_0 : (List UInt8)) (x0_3 : Int) (x0_4 : Int) : Option Int :=
 Zj (fun (x : (Int × Int)) => Qx.s0 v0_0 x.1 x.2) (x0_3, x0_4)
noncomputable def Qx.e0 : Ent where
 pre := []
 inv := [(0, .val (.slice .byte))]
 car := ⟨[(3, .val (.int .u64)), (4, .val (.int .i64))], []⟩
 exits := [(.exit 0, ⟨[(3, .val (.int .u64))], []⟩)]
 step := fun iv x => Qx.s0 iv x.1 x.2
noncomputable def Qx.s1 (v1_3 : Int) (x1_5 : ByteArray) (x1_6 : Int) : Option ((ByteArray × Int) ⊕ ByteArray) :=
 (cb (decide ((0 : Int) ≤ x1_6)) (ck (0 ≤ x1_6) (let y16 : Int := (Int.fdiv v1_3 (2 ^ min (Int.toNat x1_6) (IntKind.bits .u64))); (let y17 : Int := (Int.tmod y16 (16 : Int)); (let y18 : Int := (IntKind.u64.wrap (y17 + (1 : Int))); (ck (0 ≤ y17 ∧ y17 ≤ y18 ∧ y18 ≤ ((ByteArray.size Qi : Nat) : Int)) (let y19 : ByteArray := (ByteArray.extract Qi (Int.toNat y17) (Int.toNat y18)); (ck (((ByteArray.size x1_5 + ByteArray.size y19 : Nat) : Int) ≤ 9223372036854775807) (ck (InR (x1_6 - (4 : Int))) (some (.inl ((x1_5 ++ y19), (x1_6 - (4 : Int))))))))))))) (some (.inr x1_5)))
noncomputable def Qx.l1 (v1_3 : Int) (x1_5 : ByteArray) (x1_6 : Int) : Option ByteArray :=
 Zj (fun (x : (ByteArray × Int)) => Qx.s1 v1_3 x.1 x.2) (x1_5, x1_6)
noncomputable def Qx.e1 : Ent where
 pre := []
 inv := [(3, .val (.int .u64))]
 car := ⟨[(5, .val .str), (6, .val (.int .i64))], []⟩
 exits := [(.exit 2, ⟨[(5, .val .str)], []⟩)]
 step := fun iv x => Qx.s1 iv x.1 x.2
noncomputable def Qx.f (a0 : (List UInt8)) : Option ByteArray :=
 (ob (Qx.l0 a0 (14695981039346656037 : Int) (0 : Int)) fun r11 => (ob (Qx.l1 r11 bs_ (60 : Int)) fun r20 => (some r20)))
noncomputable def Qx.fn : TFn := ⟨[(.slice .byte)], [.str], fun x => Qx.f x⟩
noncomputable def Qx.C : Cx := cxC [] 37
theorem Qx.hC : CxOK Tryz.prog Qx.C := cxq FsOK.nil
noncomputable def Qx.root : Code := Z6 Tryz.f103
theorem Qx.h0 : LsOK Tryz.prog Qx.C Qx.root (lkL [([0, 1, 0, 1, 1], Qx.e0)]) :=
 LsOK.cons Qx.hC (LsOK.nil) (by kernel_rfl) (fun iv x => by kernel_rfl)
theorem Qx.h1 : LsOK Tryz.prog Qx.C Qx.root (lkL [([0, 1, 0, 1, 1, 1, 1], Qx.e1), ([0, 1, 0, 1, 1], Qx.e0)]) :=
 LsOK.cons Qx.hC (Qx.h0) (by kernel_rfl) (fun iv x => by kernel_rfl)
theorem Qx.ok : FnOK Tryz.prog 103 Qx.fn := .qq Qx.root Qx.hC Tryz.func103 (lkL [([0, 1, 0, 1, 1, 1, 1], Qx.e1), ([0, 1, 0, 1, 1], Qx.e0)]) [.tmp 2] Qx.h1 fun x => by kernel_rfl
noncomputable def Q2o.f (a0 : ByteArray) : Option ByteArray :=
 (let y1 : (List UInt8) := (Array.toList (ByteArray.data a0)); (ob (Qx.f y1) fun r2 => (some r2)))
noncomputable def Q2o.fn : TFn := ⟨[.str], [.str], fun x => Q2o.f x⟩
noncomputable def Q2o.C : Cx := cxC [((103, [0]), Qx.fn)] 6
theorem Q2o.hC : CxOK Tryz.prog Q2o.C := cxq (FsOK.cons Qx.ok (FsOK.nil))
noncomputable def Q2o.root : Code := Z6 Tryz.f77
theorem Q2o.ok : FnOK Tryz.prog 77 Q2o.fn := .qq Q2o.root Q2o.hC Tryz.func77 (lkL []) [.tmp 2] LsOK.nil fun x => by kernel_rfl
noncomputable def Q2a.f (a0 : ByteArray) (a1 : (ByteArray × (ByteArray × (ByteArray × (ByteArray × (Int × ((List ByteArray) × ByteArray))))))) : Option ByteArray :=
 (ck (((ByteArray.size a0 + ByteArray.size Q34 : Nat) : Int) ≤ 9223372036854775807) (ob (Q2x.f a1) fun r1 => (ck (((ByteArray.size (a0 ++ Q34) + ByteArray.size r1 : Nat) : Int) ≤ 9223372036854775807) (ck (((ByteArray.size ((a0 ++ Q34) ++ r1) + ByteArray.size Q34 : Nat) : Int) ≤ 9223372036854775807) (let y2 : ByteArray := (((a0 ++ Q34) ++ r1) ++ Q34); (ck (((ByteArray.size y2 + ByteArray.size a0 : Nat) : Int) ≤ 9223372036854775807) (ob (Q2o.f (y2 ++ a0)) fun r3 => (some r3))))))))
noncomputable def Q2a.fn : TFn := ⟨[.str, (.pair .str (.pair .str (.pair .str (.pair .str (.pair (.int .i64) (.pair (.slice .str) .str))))))], [.str], fun x => Q2a.f x.1 x.2⟩
noncomputable def Q2a.C : Cx := ⟨T, TYt, lkF [((77, [0]), Q2o.fn), ((78, [0]), Q2x.fn)], lkO [], lkD [], lkP [], [3], [], false, [], [], lkS [], 14, lkW [], 0⟩
theorem Q2a.hC : CxOK Tryz.prog Q2a.C := cxq (FsOK.cons Q2o.ok (FsOK.cons Q2x.ok (FsOK.nil)))
noncomputable def Q2a.root : Code := Z6 Tryz.f51
theorem Q2a.ok : FnOK Tryz.prog 51 Q2a.fn := .qq Q2a.root Q2a.hC Tryz.func51 (lkL []) [.tmp 4] LsOK.nil fun x => by kernel_rfl
noncomputable def Q1x.s0 (v0_1 : ByteArray) (v0_2 : Int) (v0_3 : (ByteArray × (ByteArray × ((List ByteArray) × (Int × Int))))) (v0_10 : (List ByteArray)) (v0_11 : Int) (x0_12 : Int) : Option (Int ⊕ (Bool ⊕ Unit)) :=
 (cb (decide (x0_12 < v0_11)) (ck (0 ≤ x0_12 ∧ x0_12 < ((List.length v0_10 : Nat) : Int)) (let y4 : ByteArray := (rd ByteArray.empty v0_10 x0_12); (ob (Q19.f v0_1 y4) fun r5 => (cb r5 (cb (decide (v0_3.2.2.2.1 ≤ v0_2)) (some (.inr (.inl (decide (v0_2 < v0_3.2.2.2.2))))) (some (.inr (.inl false)))) (ck (InR (x0_12 + (1 : Int))) (some (.inl (x0_12 + (1 : Int))))))))) (some (.inr (.inr ()))))
noncomputable def Q1x.l0 (v0_1 : ByteArray) (v0_2 : Int) (v0_3 : (ByteArray × (ByteArray × ((List ByteArray) × (Int × Int))))) (v0_10 : (List ByteArray)) (v0_11 : Int) (x0_12 : Int) : Option (Bool ⊕ Unit) :=
 Zj (fun (x : Int) => Q1x.s0 v0_1 v0_2 v0_3 v0_10 v0_11 x) x0_12
noncomputable def Q1x.e0 : Ent where
 pre := []
 inv := [(1, .val .str), (2, .val (.int .i64)), (3, .rp (.pair .str (.pair .str (.pair (.slice .str) (.pair (.int .i64) (.int .i64)))))), (10, .val (.slice .str)), (11, .val (.int .i64))]
 car := ⟨[(12, .val (.int .i64))], []⟩
 exits := [(.ret, ⟨[(6, .val .bool)], []⟩), (.exit 0, ⟨[], []⟩)]
 step := fun iv x => Q1x.s0 iv.1 iv.2.1 iv.2.2.1 iv.2.2.2.1 iv.2.2.2.2 x
noncomputable def Q1x.f (a0 : (ByteArray × (ByteArray × ((List ByteArray) × (Int × Int))))) (a1 : ByteArray) (a2 : Int) : Option Bool :=
 (let y1 : Int := ((List.length a0.2.2.1 : Nat) : Int); (ob (Q1x.l0 a1 a2 a0 a0.2.2.1 y1 (0 : Int)) fun r6 => (Z1g r6 (fun a7 => (some a7)) (fun b8 => (some false)))))
noncomputable def Q1x.fn : TFn := ⟨[(.pair .str (.pair .str (.pair (.slice .str) (.pair (.int .i64) (.int .i64))))), .str, (.int .i64)], [.bool], fun x => Q1x.f x.1 x.2.1 x.2.2⟩
noncomputable def Q1x.C : Cx := ⟨T, TYt, lkF [((56, [0, 0]), Q19.fn)], lkO [], lkD [], lkP [], [3], [], false, [], [], lkS [], 30, lkW [], 0⟩
theorem Q1x.hC : CxOK Tryz.prog Q1x.C := cxq (FsOK.cons Q19.ok (FsOK.nil))
noncomputable def Q1x.root : Code := Z6 Tryz.f52
theorem Q1x.h0 : LsOK Tryz.prog Q1x.C Q1x.root (lkL [([0, 1, 0, 1], Q1x.e0)]) :=
 LsOK.cons Q1x.hC (LsOK.nil) (by kernel_rfl) (fun iv x => by kernel_rfl)
theorem Q1x.ok : FnOK Tryz.prog 52 Q1x.fn := .qq Q1x.root Q1x.hC Tryz.func52 (lkL [([0, 1, 0, 1], Q1x.e0)]) [.tmp 6] Q1x.h0 fun x => by kernel_rfl
noncomputable def Q22.f (a0 : (List (ByteArray × (ByteArray × ((List ByteArray) × (Int × Int)))))) (a1 : (ByteArray × (ByteArray × (ByteArray × (ByteArray × (Int × ((List ByteArray) × ByteArray))))))) : Option Int :=
 (ob (Q10.f a0 a1.2.2.2.1) fun r1 => (cb (decide (r1 < (0 : Int))) (some (3 : Int)) (ck (0 ≤ r1 ∧ r1 < ((List.length a0 : Nat) : Int)) (let y2 : ByteArray := (rd (ByteArray.empty, (ByteArray.empty, (([] : (List ByteArray)), ((0 : Int), (0 : Int))))) a0 r1).2.1; (ob (Q2a.f y2 a1) fun r3 => (cb (!decide (a1.2.2.2.2.2.2 = r3)) (some (2 : Int)) (ck (0 ≤ r1 ∧ r1 < ((List.length a0 : Nat) : Int)) (let y4 : (ByteArray × (ByteArray × ((List ByteArray) × (Int × Int)))) := (rd (ByteArray.empty, (ByteArray.empty, (([] : (List ByteArray)), ((0 : Int), (0 : Int))))) a0 r1); (ob (Q1x.f y4 a1.2.1 a1.2.2.2.2.1) fun r5 => (cb (!r5) (some (4 : Int)) (some (1 : Int))))))))))))
noncomputable def Q22.fn : TFn := ⟨[(.slice (.pair .str (.pair .str (.pair (.slice .str) (.pair (.int .i64) (.int .i64)))))), (.pair .str (.pair .str (.pair .str (.pair .str (.pair (.int .i64) (.pair (.slice .str) .str))))))], [(.int .i64)], fun x => Q22.f x.1 x.2⟩
noncomputable def Q22.C : Cx := ⟨T, TYt, lkF [((50, [0, 0]), Q10.fn), ((51, [0, 0]), Q2a.fn), ((52, [0, 0, 0]), Q1x.fn)], lkO [], lkD [(4, 9, [(0, true), (1, true), (2, true), (3, true), (4, true), (5, true), (6, true), (7, true), (8, false)], none), (6, 8, [(0, true), (1, true), (2, true), (3, true), (4, true), (5, true), (6, true), (7, true)], none)], lkP [], [3], [], false, [], [], lkS [], 35, lkW [], 0⟩
theorem Q22.hC : CxOK Tryz.prog Q22.C := cxq (FsOK.cons Q10.ok (FsOK.cons Q2a.ok (FsOK.cons Q1x.ok (FsOK.nil))))
noncomputable def Q22.root : Code := Z6 Tryz.f27
theorem Q22.ok : FnOK Tryz.prog 27 Q22.fn := .qq Q22.root Q22.hC Tryz.func27 (lkL []) [.tmp 4] LsOK.nil fun x => by kernel_rfl
noncomputable def Qb.s0 (v0_2 : (List (Int × (ByteArray × Int)))) (v0_4 : Int) (x0_15 : Int) : Option (Int ⊕ Int) :=
 (let y7 : Int := ((List.length v0_2 : Nat) : Int); (cb (decide (x0_15 < y7)) (ck (0 ≤ x0_15 ∧ x0_15 < ((List.length v0_2 : Nat) : Int)) (let y8 : Int := (rd ((0 : Int), (ByteArray.empty, (0 : Int))) v0_2 x0_15).2.2; (cb (decide (y8 ≤ v0_4)) (ck (InR (x0_15 + (1 : Int))) (some (.inl (x0_15 + (1 : Int))))) (some (.inr x0_15))))) (some (.inr x0_15))))
noncomputable def Qb.l0 (v0_2 : (List (Int × (ByteArray × Int)))) (v0_4 : Int) (x0_15 : Int) : Option Int :=
 Zj (fun (x : Int) => Qb.s0 v0_2 v0_4 x) x0_15
noncomputable def Qb.e0 : Ent where
 pre := []
 inv := [(0, .val (.slice (.pair .str (.pair .str (.pair (.slice .str) (.pair (.int .i64) (.int .i64))))))), (1, .val (.slice (.pair .str (.pair .str (.pair .str (.pair .str (.pair (.int .i64) (.pair (.slice .str) .str)))))))), (2, .val (.slice (.pair (.int .i64) (.pair .str (.int .i64))))), (3, .val .str), (4, .val (.int .i64))]
 car := ⟨[(15, .val (.int .i64))], []⟩
 exits := [(.exit 0, ⟨[(15, .val (.int .i64))], []⟩)]
 step := fun iv x => Qb.s0 iv.2.2.1 iv.2.2.2.2 x
noncomputable def Qb.s1 (v1_0 : (List (ByteArray × (ByteArray × ((List ByteArray) × (Int × Int)))))) (v1_1 : (List (ByteArray × (ByteArray × (ByteArray × (ByteArray × (Int × ((List ByteArray) × ByteArray)))))))) (v1_3 : ByteArray) (v1_4 : Int) (v1_16 : ((List Bool) × ((List Bool) × ((List Bool) × (List ByteArray))))) (x1_17 : Int) : Option (Int ⊕ ((ByteArray × (Bool × Int)) ⊕ Unit)) :=
 (cb (decide ((0 : Int) ≤ x1_17)) (ck (0 ≤ x1_17 ∧ x1_17 < ((List.length v1_1 : Nat) : Int)) (let y15 : (ByteArray × (ByteArray × (ByteArray × (ByteArray × (Int × ((List ByteArray) × ByteArray)))))) := (rd (ByteArray.empty, (ByteArray.empty, (ByteArray.empty, (ByteArray.empty, ((0 : Int), (([] : (List ByteArray)), ByteArray.empty)))))) v1_1 x1_17); (cb (decide (y15.1 = v1_3)) (cb (decide (y15.2.2.2.2.1 ≤ v1_4)) (ck (0 ≤ x1_17 ∧ x1_17 < ((List.length v1_16.2.2.1 : Nat) : Int)) (cb (!(rd false v1_16.2.2.1 x1_17)) (ob (Q22.f v1_0 y15) fun r16 => (cb (decide (r16 = (1 : Int))) (some (.inr (.inl (y15.2.2.1, true, (0 : Int))))) (ck (InR (x1_17 - (1 : Int))) (some (.inl (x1_17 - (1 : Int))))))) (ck (InR (x1_17 - (1 : Int))) (some (.inl (x1_17 - (1 : Int))))))) (ck (InR (x1_17 - (1 : Int))) (some (.inl (x1_17 - (1 : Int)))))) (ck (InR (x1_17 - (1 : Int))) (some (.inl (x1_17 - (1 : Int)))))))) (some (.inr (.inr ()))))
noncomputable def Qb.l1 (v1_0 : (List (ByteArray × (ByteArray × ((List ByteArray) × (Int × Int)))))) (v1_1 : (List (ByteArray × (ByteArray × (ByteArray × (ByteArray × (Int × ((List ByteArray) × ByteArray)))))))) (v1_3 : ByteArray) (v1_4 : Int) (v1_16 : ((List Bool) × ((List Bool) × ((List Bool) × (List ByteArray))))) (x1_17 : Int) : Option ((ByteArray × (Bool × Int)) ⊕ Unit) :=
 Zj (fun (x : Int) => Qb.s1 v1_0 v1_1 v1_3 v1_4 v1_16 x) x1_17
noncomputable def Qb.e1 : Ent where
 pre := []
 inv := [(0, .val (.slice (.pair .str (.pair .str (.pair (.slice .str) (.pair (.int .i64) (.int .i64))))))), (1, .val (.slice (.pair .str (.pair .str (.pair .str (.pair .str (.pair (.int .i64) (.pair (.slice .str) .str)))))))), (3, .val .str), (4, .val (.int .i64)), (16, .rp (.pair (.slice .bool) (.pair (.slice .bool) (.pair (.slice .bool) (.slice .str)))))]
 car := ⟨[(17, .val (.int .i64))], [.dead]⟩
 exits := [(.ret, ⟨[(10, .val .str), (11, .val .bool), (12, .val (.int .i64))], []⟩), (.exit 2, ⟨[], [.dead]⟩)]
 step := fun iv x => Qb.s1 iv.1 iv.2.1 iv.2.2.1 iv.2.2.2.1 iv.2.2.2.2 x
noncomputable def Qb.f (a0 : (List (ByteArray × (ByteArray × ((List ByteArray) × (Int × Int)))))) (a1 : (List (ByteArray × (ByteArray × (ByteArray × (ByteArray × (Int × ((List ByteArray) × ByteArray)))))))) (a2 : (List (Int × (ByteArray × Int)))) (a3 : ByteArray) (a4 : Int) : Option (ByteArray × (Bool × Int)) :=
 (ob (Qm.f a0) fun r1 => (cb (!decide (r1 = (0 : Int))) (some (bs_, false, r1)) (ob (Qy.f a1 a2) fun r2 => (cb (!decide (r2 = (0 : Int))) (some (bs_, false, r2)) (ob (Q1o.f a3) fun r3 => (cb (!r3) (some (bs_, false, (3 : Int))) (ob (Q1m.f a4 (0 : Int) (1000000000 : Int)) fun r4 => (cb (!r4) (some (bs_, false, (1 : Int))) (ob (Qb.l0 a2 a4 (0 : Int)) fun r9 => (ck (0 ≤ r9 ∧ r9 ≤ ((List.length a2 : Nat) : Int)) (let y10 : (List (Int × (ByteArray × Int))) := (List.take (Int.toNat r9) a2); (ob (Q1.f a1 y10) fun r11 => (let y12 : Int := ((List.length a1 : Nat) : Int); (ck (InR (y12 - (1 : Int))) (ob (Qb.l1 a0 a1 a3 a4 r11 (y12 - (1 : Int))) fun r17 => (Z1g r17 (fun a18 => (some (a18.1, a18.2.1, a18.2.2))) (fun b19 => (some (bs_, false, (0 : Int))))))))))))))))))))
noncomputable def Qb.fn : TFn := ⟨[(.slice (.pair .str (.pair .str (.pair (.slice .str) (.pair (.int .i64) (.int .i64)))))), (.slice (.pair .str (.pair .str (.pair .str (.pair .str (.pair (.int .i64) (.pair (.slice .str) .str))))))), (.slice (.pair (.int .i64) (.pair .str (.int .i64)))), .str, (.int .i64)], [.str, .bool, (.int .i64)], fun x => Qb.f x.1 x.2.1 x.2.2.1 x.2.2.2.1 x.2.2.2.2⟩
noncomputable def Qb.C : Cx := ⟨T, TYt, lkF [((22, [0]), Qm.fn), ((23, [0, 0]), Qy.fn), ((24, [0]), Q1o.fn), ((25, [0, 0, 0]), Q1m.fn), ((26, [0, 0]), Q1.fn), ((27, [0, 0]), Q22.fn)], lkO [], lkD [], lkP [], [16, 18], [], false, [], [], lkS [], 93, lkW [], 0⟩
theorem Qb.hC : CxOK Tryz.prog Qb.C := cxq (FsOK.cons Qm.ok (FsOK.cons Qy.ok (FsOK.cons Q1o.ok (FsOK.cons Q1m.ok (FsOK.cons Q1.ok (FsOK.cons Q22.ok (FsOK.nil)))))))
noncomputable def Qb.root : Code := Z6 Tryz.f8
theorem Qb.h0 : LsOK Tryz.prog Qb.C Qb.root (lkL [([0, 0, 1, 1, 1, 1, 1, 1], Qb.e0)]) :=
 LsOK.cons Qb.hC (LsOK.nil) (by kernel_rfl) (fun iv x => by kernel_rfl)
theorem Qb.h1 : LsOK Tryz.prog Qb.C Qb.root (lkL [([0, 1, 0, 1, 1, 1, 1, 1, 1, 1, 1], Qb.e1), ([0, 0, 1, 1, 1, 1, 1, 1], Qb.e0)]) :=
 LsOK.cons Qb.hC (Qb.h0) (by kernel_rfl) (fun iv x => by kernel_rfl)
theorem Qb.ok : FnOK Tryz.prog 8 Qb.fn := .qq Qb.root Qb.hC Tryz.func8 (lkL [([0, 1, 0, 1, 1, 1, 1, 1, 1, 1, 1], Qb.e1), ([0, 0, 1, 1, 1, 1, 1, 1], Qb.e0)]) [.tmp 10, .tmp 11, .tmp 12] Qb.h1 fun x => by kernel_rfl
noncomputable def Q8.s0 (v0_0 : (List ByteArray)) (v0_1 : (List ByteArray)) (v0_12 : Int) (x0_13 : Int) : Option (Int ⊕ (Bool ⊕ Unit)) :=
 (cb (decide (x0_13 < v0_12)) (ck (0 ≤ x0_13 ∧ x0_13 < ((List.length v0_0 : Nat) : Int)) (let y6 : ByteArray := (rd ByteArray.empty v0_0 x0_13); (ck (0 ≤ x0_13 ∧ x0_13 < ((List.length v0_1 : Nat) : Int)) (let y7 : ByteArray := (rd ByteArray.empty v0_1 x0_13); (cb (!decide (y6 = y7)) (some (.inr (.inl false))) (ck (InR (x0_13 + (1 : Int))) (some (.inl (x0_13 + (1 : Int)))))))))) (some (.inr (.inr ()))))
noncomputable def Q8.l0 (v0_0 : (List ByteArray)) (v0_1 : (List ByteArray)) (v0_12 : Int) (x0_13 : Int) : Option (Bool ⊕ Unit) :=
 Zj (fun (x : Int) => Q8.s0 v0_0 v0_1 v0_12 x) x0_13
noncomputable def Q8.e0 : Ent where
 pre := []
 inv := [(0, .val (.slice .str)), (1, .val (.slice .str)), (12, .val (.int .i64))]
 car := ⟨[(13, .val (.int .i64))], []⟩
 exits := [(.ret, ⟨[(4, .val .bool)], []⟩), (.exit 0, ⟨[], []⟩)]
 step := fun iv x => Q8.s0 iv.1 iv.2.1 iv.2.2 x
noncomputable def Q8.f (a0 : (List ByteArray)) (a1 : (List ByteArray)) : Option Bool :=
 (let y1 : Int := ((List.length a0 : Nat) : Int); (let y2 : Int := ((List.length a1 : Nat) : Int); (cb (!decide (y1 = y2)) (some false) (let y3 : Int := ((List.length a0 : Nat) : Int); (ob (Q8.l0 a0 a1 y3 (0 : Int)) fun r8 => (Z1g r8 (fun a9 => (some a9)) (fun b10 => (some true))))))))
noncomputable def Q8.fn : TFn := ⟨[(.slice .str), (.slice .str)], [.bool], fun x => Q8.f x.1 x.2⟩
noncomputable def Q8.C : Cx := ⟨T, TYt, lkF [], lkO [], lkD [(6, 8, [(0, true), (1, true), (2, true), (3, true), (4, true), (5, true), (6, true), (7, true)], none)], lkP [], [], [], false, [], [], lkS [], 26, lkW [], 0⟩
theorem Q8.hC : CxOK Tryz.prog Q8.C := cxq FsOK.nil
noncomputable def Q8.root : Code := Z6 Tryz.f28
theorem Q8.h0 : LsOK Tryz.prog Q8.C Q8.root (lkL [([0, 1, 0, 1, 1], Q8.e0)]) :=
 LsOK.cons Q8.hC (LsOK.nil) (by kernel_rfl) (fun iv x => by kernel_rfl)
theorem Q8.ok : FnOK Tryz.prog 28 Q8.fn := .qq Q8.root Q8.hC Tryz.func28 (lkL [([0, 1, 0, 1, 1], Q8.e0)]) [.tmp 4] Q8.h0 fun x => by kernel_rfl
noncomputable def Qs.s0 (v0_0 : (List (ByteArray × (ByteArray × ((List ByteArray) × (Int × Int)))))) (v0_1 : (List (ByteArray × (ByteArray × ((List ByteArray) × (Int × Int)))))) (v0_12 : Int) (x0_13 : Int) : Option (Int ⊕ (Bool ⊕ Unit)) :=
 (cb (decide (x0_13 < v0_12)) (ck (0 ≤ x0_13 ∧ x0_13 < ((List.length v0_0 : Nat) : Int)) (let y15 : ByteArray := (rd (ByteArray.empty, (ByteArray.empty, (([] : (List ByteArray)), ((0 : Int), (0 : Int))))) v0_0 x0_13).1; (ck (0 ≤ x0_13 ∧ x0_13 < ((List.length v0_1 : Nat) : Int)) (let y16 : ByteArray := (rd (ByteArray.empty, (ByteArray.empty, (([] : (List ByteArray)), ((0 : Int), (0 : Int))))) v0_1 x0_13).1; (cb (!decide (y15 = y16)) (some (.inr (.inl false))) (ck (0 ≤ x0_13 ∧ x0_13 < ((List.length v0_0 : Nat) : Int)) (let y17 : ByteArray := (rd (ByteArray.empty, (ByteArray.empty, (([] : (List ByteArray)), ((0 : Int), (0 : Int))))) v0_0 x0_13).2.1; (ck (0 ≤ x0_13 ∧ x0_13 < ((List.length v0_1 : Nat) : Int)) (let y18 : ByteArray := (rd (ByteArray.empty, (ByteArray.empty, (([] : (List ByteArray)), ((0 : Int), (0 : Int))))) v0_1 x0_13).2.1; (cb (!decide (y17 = y18)) (some (.inr (.inl false))) (ck (0 ≤ x0_13 ∧ x0_13 < ((List.length v0_0 : Nat) : Int)) (let y19 : (List ByteArray) := (rd (ByteArray.empty, (ByteArray.empty, (([] : (List ByteArray)), ((0 : Int), (0 : Int))))) v0_0 x0_13).2.2.1; (ck (0 ≤ x0_13 ∧ x0_13 < ((List.length v0_1 : Nat) : Int)) (let y20 : (List ByteArray) := (rd (ByteArray.empty, (ByteArray.empty, (([] : (List ByteArray)), ((0 : Int), (0 : Int))))) v0_1 x0_13).2.2.1; (ob (Q8.f y19 y20) fun r21 => (cb (!r21) (some (.inr (.inl false))) (ck (0 ≤ x0_13 ∧ x0_13 < ((List.length v0_0 : Nat) : Int)) (let y22 : Int := (rd (ByteArray.empty, (ByteArray.empty, (([] : (List ByteArray)), ((0 : Int), (0 : Int))))) v0_0 x0_13).2.2.2.1; (ck (0 ≤ x0_13 ∧ x0_13 < ((List.length v0_1 : Nat) : Int)) (let y23 : Int := (rd (ByteArray.empty, (ByteArray.empty, (([] : (List ByteArray)), ((0 : Int), (0 : Int))))) v0_1 x0_13).2.2.2.1; (cb (!decide (y22 = y23)) (some (.inr (.inl false))) (ck (0 ≤ x0_13 ∧ x0_13 < ((List.length v0_0 : Nat) : Int)) (let y24 : Int := (rd (ByteArray.empty, (ByteArray.empty, (([] : (List ByteArray)), ((0 : Int), (0 : Int))))) v0_0 x0_13).2.2.2.2; (ck (0 ≤ x0_13 ∧ x0_13 < ((List.length v0_1 : Nat) : Int)) (let y25 : Int := (rd (ByteArray.empty, (ByteArray.empty, (([] : (List ByteArray)), ((0 : Int), (0 : Int))))) v0_1 x0_13).2.2.2.2; (cb (!decide (y24 = y25)) (some (.inr (.inl false))) (ck (InR (x0_13 + (1 : Int))) (some (.inl (x0_13 + (1 : Int))))))))))))))))))))))))))))))) (some (.inr (.inr ()))))
noncomputable def Qs.l0 (v0_0 : (List (ByteArray × (ByteArray × ((List ByteArray) × (Int × Int)))))) (v0_1 : (List (ByteArray × (ByteArray × ((List ByteArray) × (Int × Int)))))) (v0_12 : Int) (x0_13 : Int) : Option (Bool ⊕ Unit) :=
 Zj (fun (x : Int) => Qs.s0 v0_0 v0_1 v0_12 x) x0_13
noncomputable def Qs.e0 : Ent where
 pre := []
 inv := [(0, .val (.slice (.pair .str (.pair .str (.pair (.slice .str) (.pair (.int .i64) (.int .i64))))))), (1, .val (.slice (.pair .str (.pair .str (.pair (.slice .str) (.pair (.int .i64) (.int .i64))))))), (12, .val (.int .i64))]
 car := ⟨[(13, .val (.int .i64))], []⟩
 exits := [(.ret, ⟨[(4, .val .bool)], []⟩), (.exit 0, ⟨[], []⟩)]
 step := fun iv x => Qs.s0 iv.1 iv.2.1 iv.2.2 x
noncomputable def Qs.f (a0 : (List (ByteArray × (ByteArray × ((List ByteArray) × (Int × Int)))))) (a1 : (List (ByteArray × (ByteArray × ((List ByteArray) × (Int × Int)))))) : Option Bool :=
 (let y1 : Int := ((List.length a0 : Nat) : Int); (let y2 : Int := ((List.length a1 : Nat) : Int); (cb (!decide (y1 = y2)) (some false) (let y3 : Int := ((List.length a0 : Nat) : Int); (ob (Qs.l0 a0 a1 y3 (0 : Int)) fun r26 => (Z1g r26 (fun a27 => (some a27)) (fun b28 => (some true))))))))
noncomputable def Qs.fn : TFn := ⟨[(.slice (.pair .str (.pair .str (.pair (.slice .str) (.pair (.int .i64) (.int .i64)))))), (.slice (.pair .str (.pair .str (.pair (.slice .str) (.pair (.int .i64) (.int .i64))))))], [.bool], fun x => Qs.f x.1 x.2⟩
noncomputable def Qs.C : Cx := ⟨T, TYt, lkF [((28, [0, 0]), Q8.fn)], lkO [], lkD [(6, 62, [(0, true), (1, true), (2, true), (3, true), (4, true), (5, true), (6, true), (7, true), (8, true), (9, true), (10, true), (11, true), (12, true), (13, true), (14, true), (15, true), (16, true), (17, true), (18, true), (19, true), (20, true), (21, true), (22, true), (23, true), (24, true), (25, true), (26, true), (27, true), (28, true), (29, true), (30, true), (31, true), (32, true), (33, true), (34, true), (35, false), (36, true), (37, true), (38, true), (39, true), (40, true), (41, true), (42, true), (43, true), (44, true), (45, true), (46, true), (47, true), (48, true), (49, true), (50, true), (51, true), (52, true), (53, true), (54, true), (55, true), (56, true), (57, true), (58, true), (59, true), (60, true), (61, true)], none)], lkP [], [], [], false, [], [], lkS [], 81, lkW [], 0⟩
theorem Qs.hC : CxOK Tryz.prog Qs.C := cxq (FsOK.cons Q8.ok (FsOK.nil))
noncomputable def Qs.root : Code := Z6 Tryz.f9
theorem Qs.h0 : LsOK Tryz.prog Qs.C Qs.root (lkL [([0, 1, 0, 1, 1], Qs.e0)]) :=
 LsOK.cons Qs.hC (LsOK.nil) (by kernel_rfl) (fun iv x => by kernel_rfl)
theorem Qs.ok : FnOK Tryz.prog 9 Qs.fn := .qq Qs.root Qs.hC Tryz.func9 (lkL [([0, 1, 0, 1, 1], Qs.e0)]) [.tmp 4] Qs.h0 fun x => by kernel_rfl
noncomputable def Q1z.f (a0 : (ByteArray × (ByteArray × (ByteArray × (ByteArray × (Int × ((List ByteArray) × ByteArray))))))) (a1 : (ByteArray × (ByteArray × (ByteArray × (ByteArray × (Int × ((List ByteArray) × ByteArray))))))) : Option Bool :=
 (cb (decide (a0.1 = a1.1)) (cb (decide (a0.2.1 = a1.2.1)) (cb (decide (a0.2.2.1 = a1.2.2.1)) (cb (decide (a0.2.2.2.1 = a1.2.2.2.1)) (cb (decide (a0.2.2.2.2.1 = a1.2.2.2.2.1)) (cb (decide (a0.2.2.2.2.2.2 = a1.2.2.2.2.2.2)) (ob (Q8.f a0.2.2.2.2.2.1 a1.2.2.2.2.2.1) fun r1 => (some r1)) (some false)) (some false)) (some false)) (some false)) (some false)) (some false))
noncomputable def Q1z.fn : TFn := ⟨[(.pair .str (.pair .str (.pair .str (.pair .str (.pair (.int .i64) (.pair (.slice .str) .str)))))), (.pair .str (.pair .str (.pair .str (.pair .str (.pair (.int .i64) (.pair (.slice .str) .str))))))], [.bool], fun x => Q1z.f x.1 x.2⟩
noncomputable def Q1z.C : Cx := ⟨T, TYt, lkF [((28, [0, 0]), Q8.fn)], lkO [], lkD [], lkP [], [2, 3], [], false, [], [], lkS [], 52, lkW [], 0⟩
theorem Q1z.hC : CxOK Tryz.prog Q1z.C := cxq (FsOK.cons Q8.ok (FsOK.nil))
noncomputable def Q1z.root : Code := Z6 Tryz.f29
theorem Q1z.ok : FnOK Tryz.prog 29 Q1z.fn := .qq Q1z.root Q1z.hC Tryz.func29 (lkL []) [.tmp 4] LsOK.nil fun x => by kernel_rfl
noncomputable def Q1t.s0 (v0_0 : (List (ByteArray × (ByteArray × (ByteArray × (ByteArray × (Int × ((List ByteArray) × ByteArray)))))))) (v0_1 : (List (ByteArray × (ByteArray × (ByteArray × (ByteArray × (Int × ((List ByteArray) × ByteArray)))))))) (v0_12 : Int) (x0_13 : Int) : Option (Int ⊕ (Bool ⊕ Unit)) :=
 (cb (decide (x0_13 < v0_12)) (ck (0 ≤ x0_13 ∧ x0_13 < ((List.length v0_0 : Nat) : Int)) (let y7 : (ByteArray × (ByteArray × (ByteArray × (ByteArray × (Int × ((List ByteArray) × ByteArray)))))) := (rd (ByteArray.empty, (ByteArray.empty, (ByteArray.empty, (ByteArray.empty, ((0 : Int), (([] : (List ByteArray)), ByteArray.empty)))))) v0_0 x0_13); (ck (0 ≤ x0_13 ∧ x0_13 < ((List.length v0_1 : Nat) : Int)) (let y8 : (ByteArray × (ByteArray × (ByteArray × (ByteArray × (Int × ((List ByteArray) × ByteArray)))))) := (rd (ByteArray.empty, (ByteArray.empty, (ByteArray.empty, (ByteArray.empty, ((0 : Int), (([] : (List ByteArray)), ByteArray.empty)))))) v0_1 x0_13); (ob (Q1z.f y7 y8) fun r9 => (cb (!r9) (some (.inr (.inl false))) (ck (InR (x0_13 + (1 : Int))) (some (.inl (x0_13 + (1 : Int))))))))))) (some (.inr (.inr ()))))
noncomputable def Q1t.l0 (v0_0 : (List (ByteArray × (ByteArray × (ByteArray × (ByteArray × (Int × ((List ByteArray) × ByteArray)))))))) (v0_1 : (List (ByteArray × (ByteArray × (ByteArray × (ByteArray × (Int × ((List ByteArray) × ByteArray)))))))) (v0_12 : Int) (x0_13 : Int) : Option (Bool ⊕ Unit) :=
 Zj (fun (x : Int) => Q1t.s0 v0_0 v0_1 v0_12 x) x0_13
noncomputable def Q1t.e0 : Ent where
 pre := []
 inv := [(0, .val (.slice (.pair .str (.pair .str (.pair .str (.pair .str (.pair (.int .i64) (.pair (.slice .str) .str)))))))), (1, .val (.slice (.pair .str (.pair .str (.pair .str (.pair .str (.pair (.int .i64) (.pair (.slice .str) .str)))))))), (12, .val (.int .i64))]
 car := ⟨[(13, .val (.int .i64))], []⟩
 exits := [(.ret, ⟨[(4, .val .bool)], []⟩), (.exit 0, ⟨[], []⟩)]
 step := fun iv x => Q1t.s0 iv.1 iv.2.1 iv.2.2 x
noncomputable def Q1t.f (a0 : (List (ByteArray × (ByteArray × (ByteArray × (ByteArray × (Int × ((List ByteArray) × ByteArray)))))))) (a1 : (List (ByteArray × (ByteArray × (ByteArray × (ByteArray × (Int × ((List ByteArray) × ByteArray)))))))) : Option Bool :=
 (let y1 : Int := ((List.length a0 : Nat) : Int); (let y2 : Int := ((List.length a1 : Nat) : Int); (cb (!decide (y1 = y2)) (some false) (let y3 : Int := ((List.length a0 : Nat) : Int); (ob (Q1t.l0 a0 a1 y3 (0 : Int)) fun r10 => (Z1g r10 (fun a11 => (some a11)) (fun b12 => (some true))))))))
noncomputable def Q1t.fn : TFn := ⟨[(.slice (.pair .str (.pair .str (.pair .str (.pair .str (.pair (.int .i64) (.pair (.slice .str) .str))))))), (.slice (.pair .str (.pair .str (.pair .str (.pair .str (.pair (.int .i64) (.pair (.slice .str) .str)))))))], [.bool], fun x => Q1t.f x.1 x.2⟩
noncomputable def Q1t.C : Cx := ⟨T, TYt, lkF [((29, [0, 0]), Q1z.fn)], lkO [], lkD [(6, 8, [(0, true), (1, true), (2, true), (3, true), (4, true), (5, true), (6, true), (7, true)], none)], lkP [], [], [], false, [], [], lkS [], 27, lkW [], 0⟩
theorem Q1t.hC : CxOK Tryz.prog Q1t.C := cxq (FsOK.cons Q1z.ok (FsOK.nil))
noncomputable def Q1t.root : Code := Z6 Tryz.f10
theorem Q1t.h0 : LsOK Tryz.prog Q1t.C Q1t.root (lkL [([0, 1, 0, 1, 1], Q1t.e0)]) :=
 LsOK.cons Q1t.hC (LsOK.nil) (by kernel_rfl) (fun iv x => by kernel_rfl)
theorem Q1t.ok : FnOK Tryz.prog 10 Q1t.fn := .qq Q1t.root Q1t.hC Tryz.func10 (lkL [([0, 1, 0, 1, 1], Q1t.e0)]) [.tmp 4] Q1t.h0 fun x => by kernel_rfl
noncomputable def Q6.s0 (v0_0 : (List (Int × (ByteArray × Int)))) (v0_1 : (List (Int × (ByteArray × Int)))) (v0_12 : Int) (x0_13 : Int) : Option (Int ⊕ (Bool ⊕ Unit)) :=
 (cb (decide (x0_13 < v0_12)) (ck (0 ≤ x0_13 ∧ x0_13 < ((List.length v0_0 : Nat) : Int)) (let y6 : (Int × (ByteArray × Int)) := (rd ((0 : Int), (ByteArray.empty, (0 : Int))) v0_0 x0_13); (ck (0 ≤ x0_13 ∧ x0_13 < ((List.length v0_1 : Nat) : Int)) (let y7 : (Int × (ByteArray × Int)) := (rd ((0 : Int), (ByteArray.empty, (0 : Int))) v0_1 x0_13); (cb (!((eqI y6.1 y7.1) && ((eqS y6.2.1 y7.2.1) && ((eqI y6.2.2 y7.2.2) && true)))) (some (.inr (.inl false))) (ck (InR (x0_13 + (1 : Int))) (some (.inl (x0_13 + (1 : Int)))))))))) (some (.inr (.inr ()))))
noncomputable def Q6.l0 (v0_0 : (List (Int × (ByteArray × Int)))) (v0_1 : (List (Int × (ByteArray × Int)))) (v0_12 : Int) (x0_13 : Int) : Option (Bool ⊕ Unit) :=
 Zj (fun (x : Int) => Q6.s0 v0_0 v0_1 v0_12 x) x0_13
noncomputable def Q6.e0 : Ent where
 pre := []
 inv := [(0, .val (.slice (.pair (.int .i64) (.pair .str (.int .i64))))), (1, .val (.slice (.pair (.int .i64) (.pair .str (.int .i64))))), (12, .val (.int .i64))]
 car := ⟨[(13, .val (.int .i64))], []⟩
 exits := [(.ret, ⟨[(4, .val .bool)], []⟩), (.exit 0, ⟨[], []⟩)]
 step := fun iv x => Q6.s0 iv.1 iv.2.1 iv.2.2 x
noncomputable def Q6.f (a0 : (List (Int × (ByteArray × Int)))) (a1 : (List (Int × (ByteArray × Int)))) : Option Bool :=
 (let y1 : Int := ((List.length a0 : Nat) : Int); (let y2 : Int := ((List.length a1 : Nat) : Int); (cb (!decide (y1 = y2)) (some false) (let y3 : Int := ((List.length a0 : Nat) : Int); (ob (Q6.l0 a0 a1 y3 (0 : Int)) fun r8 => (Z1g r8 (fun a9 => (some a9)) (fun b10 => (some true))))))))
noncomputable def Q6.fn : TFn := ⟨[(.slice (.pair (.int .i64) (.pair .str (.int .i64)))), (.slice (.pair (.int .i64) (.pair .str (.int .i64))))], [.bool], fun x => Q6.f x.1 x.2⟩
noncomputable def Q6.C : Cx := ⟨T, TYt, lkF [], lkO [], lkD [(6, 8, [(0, true), (1, true), (2, true), (3, true), (4, true), (5, true), (6, true), (7, true)], none)], lkP [], [], [], false, [29], [], lkS [], 26, lkW [], 0⟩
theorem Q6.hC : CxOK Tryz.prog Q6.C := ⟨tabOK, FsOK.nil, OsOK.nil, mixed, (fun t h => eqs_of [29] (by kernel_rfl) t h), (fun t e h => by cases h), SsOK.nil, WsOK.nil⟩
noncomputable def Q6.root : Code := Z6 Tryz.f11
theorem Q6.h0 : LsOK Tryz.prog Q6.C Q6.root (lkL [([0, 1, 0, 1, 1], Q6.e0)]) :=
 LsOK.cons Q6.hC (LsOK.nil) (by kernel_rfl) (fun iv x => by kernel_rfl)
theorem Q6.ok : FnOK Tryz.prog 11 Q6.fn := .qq Q6.root Q6.hC Tryz.func11 (lkL [([0, 1, 0, 1, 1], Q6.e0)]) [.tmp 4] Q6.h0 fun x => by kernel_rfl
noncomputable def Q2u.f (a0 : (List (ByteArray × (ByteArray × ((List ByteArray) × (Int × Int)))))) (a1 : ByteArray) (a2 : ByteArray) (a3 : Int) : Option (Bool × Int) :=
 (ob (Q7.f a0) fun r1 => (cb (!decide (r1 = (0 : Int))) (some (false, r1)) (ob (Q1y.f a1) fun r2 => (cb (!r2) (some (false, (5 : Int))) (ob (Q1s.f a2) fun r3 => (cb (!r3) (some (false, (10 : Int))) (ob (Q1n.f a3 (0 : Int) (1000000000 : Int)) fun r4 => (cb (!r4) (some (false, (1 : Int))) (ob (Q2f.f a0 a1) fun r5 => (cb r5.2 (ob (Q2t.f r5.1 a2 a3) fun r6 => (some (r6, (0 : Int)))) (some (false, (0 : Int)))))))))))))
noncomputable def Q2u.fn : TFn := ⟨[(.slice (.pair .str (.pair .str (.pair (.slice .str) (.pair (.int .i64) (.int .i64)))))), .str, .str, (.int .i64)], [.bool, (.int .i64)], fun x => Q2u.f x.1 x.2.1 x.2.2.1 x.2.2.2⟩
noncomputable def Q2u.C : Cx := ⟨T, TYt, lkF [((15, [0]), Q7.fn), ((18, [0, 0, 0]), Q1n.fn), ((39, [0, 0]), Q2f.fn), ((41, [0, 0, 0]), Q2t.fn), ((53, [0]), Q1y.fn), ((54, [0]), Q1s.fn)], lkO [], lkD [], lkP [], [11], [], false, [], [], lkS [], 43, lkW [], 0⟩
theorem Q2u.hC : CxOK Tryz.prog Q2u.C := cxq (FsOK.cons Q7.ok (FsOK.cons Q1n.ok (FsOK.cons Q2f.ok (FsOK.cons Q2t.ok (FsOK.cons Q1y.ok (FsOK.cons Q1s.ok (FsOK.nil)))))))
noncomputable def Q2u.root : Code := Z6 Tryz.f30
theorem Q2u.ok : FnOK Tryz.prog 30 Q2u.fn := .qq Q2u.root Q2u.hC Tryz.func30 (lkL []) [.tmp 8, .tmp 9] LsOK.nil fun x => by kernel_rfl
noncomputable def Q2r.f : Option Bool :=
 (ob (Q2u.f ([(Q36, (Q39, (([Q2p] : List ByteArray), ((0 : Int), (5 : Int)))))] : List (ByteArray × (ByteArray × ((List ByteArray) × (Int × Int))))) Q36 Q1l (4 : Int)) fun r1 => (ob (Q2u.f ([(Q36, (Q39, (([Q2p] : List ByteArray), ((0 : Int), (5 : Int)))))] : List (ByteArray × (ByteArray × ((List ByteArray) × (Int × Int))))) Q36 Q1l (5 : Int)) fun r2 => (cb (decide (r1.2 = (0 : Int))) (cb (decide (r2.2 = (0 : Int))) (cb r1.1 (some (!r2.1)) (some false)) (some false)) (some false))))
noncomputable def Q2r.fn : TFn := ⟨[], [.bool], fun x => Q2r.f⟩
noncomputable def Q2r.C : Cx := cxC [((30, [0, 0, 0, 0]), Q2u.fn)] 32
theorem Q2r.hC : CxOK Tryz.prog Q2r.C := cxq (FsOK.cons Q2u.ok (FsOK.nil))
noncomputable def Q2r.root : Code := Z6 Tryz.f12
theorem Q2r.ok : FnOK Tryz.prog 12 Q2r.fn := .qq Q2r.root Q2r.hC Tryz.func12 (lkL []) [.tmp 0] LsOK.nil fun x => by kernel_rfl
noncomputable def Q14.f (a0 : (List (ByteArray × (ByteArray × ((List ByteArray) × (Int × Int)))))) (a1 : (List (ByteArray × (ByteArray × (ByteArray × (ByteArray × (Int × ((List ByteArray) × ByteArray)))))))) (a2 : (List (Int × (ByteArray × Int)))) (a3 : ByteArray) (a4 : Int) : Option Bool :=
 (ob (Qr.f a0) fun r1 => (ob (Q1u.f a1) fun r2 => (ob (Qu.f a2) fun r3 => (ob (Qd.f a0 a1 a2 a3 a4) fun r4 => (ob (Qb.f r1 r2 r3 a3 a4) fun r5 => (cb (decide (r4.2.2 = r5.2.2)) (cb (decide (r4.1 = r5.1)) (cb (r4.2.1 == r5.2.1) (ob (Qs.f a0 r1) fun r6 => (cb r6 (ob (Q1t.f a1 r2) fun r7 => (cb r7 (ob (Q6.f a2 r3) fun r8 => (cb r8 (ob (Q2r.f) fun r9 => (some r9)) (some false))) (some false))) (some false))) (some false)) (some false)) (some false)))))))
noncomputable def Q14.fn : TFn := ⟨[(.slice (.pair .str (.pair .str (.pair (.slice .str) (.pair (.int .i64) (.int .i64)))))), (.slice (.pair .str (.pair .str (.pair .str (.pair .str (.pair (.int .i64) (.pair (.slice .str) .str))))))), (.slice (.pair (.int .i64) (.pair .str (.int .i64)))), .str, (.int .i64)], [.bool], fun x => Q14.f x.1 x.2.1 x.2.2.1 x.2.2.2.1 x.2.2.2.2⟩
noncomputable def Q14.C : Cx := cxC [((4, [0]), Qr.fn), ((5, [0]), Q1u.fn), ((6, [0]), Qu.fn), ((7, [0, 0, 0, 0, 0]), Qd.fn), ((8, [0, 0, 0, 0, 0]), Qb.fn), ((9, [0, 0]), Qs.fn), ((10, [0, 0]), Q1t.fn), ((11, [0, 0]), Q6.fn), ((12, []), Q2r.fn)] 77
theorem Q14.hC : CxOK Tryz.prog Q14.C := cxq (FsOK.cons Qr.ok (FsOK.cons Q1u.ok (FsOK.cons Qu.ok (FsOK.cons Qd.ok (FsOK.cons Qb.ok (FsOK.cons Qs.ok (FsOK.cons Q1t.ok (FsOK.cons Q6.ok (FsOK.cons Q2r.ok (FsOK.nil))))))))))
noncomputable def Q14.root : Code := Z6 Tryz.f3
theorem Q14.ok : FnOK Tryz.prog 3 Q14.fn := .qq Q14.root Q14.hC Tryz.func3 (lkL []) [.tmp 10] LsOK.nil fun x => by kernel_rfl
end Go.Proofs.YtplgphblmeceoaaGreatDoor
