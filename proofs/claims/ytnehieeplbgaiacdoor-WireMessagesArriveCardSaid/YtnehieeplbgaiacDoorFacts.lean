/-
  Closed facts of the program that each row of this seat asks. No condition.
-/
import Derived.Test.YtnehieeplbgaiacDoorPlain
import Derived.LaidSub
import Derived.Lib.LaidTab
import Derived.Test.YtnehieeplbgaiacDoorCards
import Derived.Test.YtnehieeplbgaiacDoorTie
import Derived.ProofKit
import Derived.LaidMore
import Derived.Lay
import Derived.OpenShut
import Derived.SevenTiedAt
import Derived.Stop.Joined
import Derived.JoinedCond
import Derived.Deep.DeepHandedRow
import Derived.Test.YtnehieeplbgaiacDoorEngB
import Derived.Test.YtnehieeplbgaiacDoorRows
set_option linter.unusedVariables false
set_option linter.unusedSimpArgs false
set_option maxRecDepth 100000
set_option maxHeartbeats 4000000
namespace Go.Proofs.YtnehieeplbgaiacDoor
open Go Go.RowKit Go.ChangeShapes Go.WideShapes Go.ChangeAt Go.Proofs.YtnehieeplbgaiacDoor.Eng
theorem own : ownKnob Tryd.prog.godebug = none := by kernel_rfl
theorem laidOut : laidOutB Tryd.prog = true := by kernel_rfl
end Go.Proofs.YtnehieeplbgaiacDoor
set_option maxRecDepth 100000
set_option maxHeartbeats 4000000
namespace Go.Proofs.YtnehieeplbgaiacDoor
open Go Go.RowKit
def ioL : List Char := [Char.ofNat 104,Char.ofNat 97,Char.ofNat 114,Char.ofNat 110,Char.ofNat 101,Char.ofNat 115,Char.ofNat 115,Char.ofNat 32,Char.ofNat 55,Char.ofNat 55,Char.ofNat 49,Char.ofNat 51,Char.ofNat 102,Char.ofNat 51,Char.ofNat 53,Char.ofNat 98,Char.ofNat 51,Char.ofNat 49,Char.ofNat 102,Char.ofNat 54,Char.ofNat 97,Char.ofNat 51,Char.ofNat 50,Char.ofNat 50,Char.ofNat 101,Char.ofNat 100,Char.ofNat 57,Char.ofNat 52,Char.ofNat 54,Char.ofNat 48,Char.ofNat 99,Char.ofNat 50,Char.ofNat 99,Char.ofNat 99,Char.ofNat 49,Char.ofNat 97,Char.ofNat 101,Char.ofNat 57,Char.ofNat 98,Char.ofNat 55,Char.ofNat 53,Char.ofNat 53,Char.ofNat 101,Char.ofNat 49,Char.ofNat 49,Char.ofNat 54,Char.ofNat 48,Char.ofNat 49,Char.ofNat 98,Char.ofNat 48,Char.ofNat 102,Char.ofNat 100,Char.ofNat 100,Char.ofNat 102,Char.ofNat 99,Char.ofNat 51,Char.ofNat 98,Char.ofNat 102,Char.ofNat 100,Char.ofNat 51,Char.ofNat 54,Char.ofNat 54,Char.ofNat 99,Char.ofNat 102,Char.ofNat 52,Char.ofNat 57,Char.ofNat 51,Char.ofNat 99,Char.ofNat 51,Char.ofNat 53,Char.ofNat 99,Char.ofNat 48,Char.ofNat 32,Char.ofNat 99,Char.ofNat 117,Char.ofNat 116,Char.ofNat 32,Char.ofNat 97,Char.ofNat 116,Char.ofNat 32,Char.ofNat 115,Char.ofNat 109,Char.ofNat 105,Char.ofNat 116,Char.ofNat 104,Char.ofNat 121,Char.ofNat 97,Char.ofNat 114,Char.ofNat 100,Char.ofNat 47,Char.ofNat 115,Char.ofNat 109,Char.ofNat 105,Char.ofNat 116,Char.ofNat 104,Char.ofNat 121,Char.ofNat 97,Char.ofNat 114,Char.ofNat 100,Char.ofNat 108,Char.ofNat 97,Char.ofNat 119,Char.ofNat 56,Char.ofNat 46,Char.ofNat 87,Char.ofNat 105,Char.ofNat 114,Char.ofNat 101,Char.ofNat 77,Char.ofNat 101,Char.ofNat 115,Char.ofNat 115,Char.ofNat 97,Char.ofNat 103,Char.ofNat 101,Char.ofNat 115,Char.ofNat 65,Char.ofNat 114,Char.ofNat 114,Char.ofNat 105,Char.ofNat 118,Char.ofNat 101]
def ioS : List Char := (wordsSigns ioL).getD 1 []
def ioW : List (List Char) := (wordsSigns ioL).drop 2
theorem e_io : Tryd.prog.initOrder = String.ofList ioL := by kernel_rfl
theorem e_wa : wordsSigns Tryd.prog.initOrder.toList = [Char.ofNat 104,Char.ofNat 97,Char.ofNat 114,Char.ofNat 110,Char.ofNat 101,Char.ofNat 115,Char.ofNat 115] :: ioS :: ioW := by
 rw [e_io, String.toList_ofList]
 kernel_rfl
theorem Zgu {P : Program} {sg : List Char} {rest : List (List Char)} (hW : wordsSigns P.initOrder.toList = [Char.ofNat 104,Char.ofNat 97,Char.ofNat 114,Char.ofNat 110,Char.ofNat 101,Char.ofNat 115,Char.ofNat 115] :: sg :: rest) (hs : isSumSigns sg = true) : P.mainIs = some (true, sg) ∧ behindMainWord (wordsSigns P.initOrder.toList) = rest := by
 have e1 : "harness".toList = [Char.ofNat 104,Char.ofNat 97,Char.ofNat 114,Char.ofNat 110,Char.ofNat 101,Char.ofNat 115,Char.ofNat 115] := String.toList_ofList (l := [Char.ofNat 104,Char.ofNat 97,Char.ofNat 114,Char.ofNat 110,Char.ofNat 101,Char.ofNat 115,Char.ofNat 115])
 unfold Program.mainIs
 rw [hW]
 constructor
 ·simp [e1, hs]
 ·simp [behindMainWord, e1, hs]
theorem e_sum : isSumSigns ioS = true := by kernel_rfl
theorem e_ws : behindMainWord (wordsSigns Tryd.prog.initOrder.toList) = ioW := (Zgu e_wa e_sum).2
theorem e_main : Tryd.pinned.checked.prog.mainIs = some (true, "7713f35b31f6a322ed9460c2cc1ae9b755e11601b0fddfc3bfd366cf493c35c0".toList) := by
 have e1 : "7713f35b31f6a322ed9460c2cc1ae9b755e11601b0fddfc3bfd366cf493c35c0".toList = ioS := String.toList_ofList (l := ioS)
 rw [e1]
 exact (Zgu e_wa e_sum).1
theorem Z8g {w : List Char} {ws : List (List Char)} : ∀ os : List String, (∀ o ∈ os, o ≠ String.ofList w) → stripLifts os (w :: ws) = ([], w :: ws)
 | [], _ => rfl
 | o :: os, h => by
  have h1 : (w == o.toList) = false := by
   refine beq_eq_false_iff_ne.2 fun e => h o (List.mem_cons_self ..) ?_
   rw [e, String.ofList_toList]
  unfold stripLifts
  rw [h1]
  exact Z8g os fun x hx => h x (List.mem_cons_of_mem _ hx)
def ioR : List (List Char) := ioW.tail
theorem e_iw : ioW = [Char.ofNat 99, Char.ofNat 117, Char.ofNat 116] :: ioR := by kernel_rfl
theorem e_ws2 : behindMainWord (wordsSigns Tryd.prog.initOrder.toList) = [Char.ofNat 99, Char.ofNat 117, Char.ofNat 116] :: ioR := e_ws.trans e_iw
theorem e_strip : stripLifts liftWords ([Char.ofNat 99, Char.ofNat 117, Char.ofNat 116] :: ioR) = ([], [Char.ofNat 99, Char.ofNat 117, Char.ofNat 116] :: ioR) := Z8g _ (by decide)
theorem e_cut : "cut".toList = [Char.ofNat 99, Char.ofNat 117, Char.ofNat 116] := String.toList_ofList (l := [Char.ofNat 99, Char.ofNat 117, Char.ofNat 116])
theorem e_heads : Tryd.prog.headLifts = [] := by
 unfold Program.headLifts
 rw [e_ws2, e_strip]
 simp
theorem e_ll : Tryd.prog.laysLater = false := by kernel_rfl
theorem e_br : Tryd.prog.bearsReflect = false := by kernel_rfl
theorem e_df : Tryd.prog.doorFits [] = true := by kernel_rfl
theorem may_of {P : Program} {rest : List (List Char)} (hW : behindMainWord (wordsSigns P.initOrder.toList) = [Char.ofNat 99, Char.ofNat 117, Char.ofNat 116] :: rest) (hs : stripLifts liftWords ([Char.ofNat 99, Char.ofNat 117, Char.ofNat 116] :: rest) = ([], [Char.ofNat 99, Char.ofNat 117, Char.ofNat 116] :: rest)) (h1 : P.laysLater = false) (h2 : P.bearsReflect = false) (h3 : P.doorFits [] = true) : P.mayEnter = true := by
 unfold Program.mayEnter
 rw [hW]
 simp [hs, h1, h2, h3, e_cut]
theorem e_may : Tryd.prog.mayEnter = true := may_of e_ws2 e_strip e_ll e_br e_df
theorem make_of {P : Program} {rest : List (List Char)} (hW : behindMainWord (wordsSigns P.initOrder.toList) = [Char.ofNat 99, Char.ofNat 117, Char.ofNat 116] :: rest) : P.make = some .cut := by
 unfold Program.make
 rw [hW]
 have e1 : "gc".toList = [Char.ofNat 103, Char.ofNat 99] := String.toList_ofList (l := [Char.ofNat 103, Char.ofNat 99])
 have e2 : "spec".toList = [Char.ofNat 115, Char.ofNat 112, Char.ofNat 101, Char.ofNat 99] := String.toList_ofList (l := [Char.ofNat 115, Char.ofNat 112, Char.ofNat 101, Char.ofNat 99])
 simp [e1, e2, e_cut]
theorem e_make : Tryd.prog.make = some Rows.wireMessagesArriveRow.make := make_of e_ws2
theorem Zgx {P : Program} {rest : List (List Char)} (hW : behindMainWord (wordsSigns P.initOrder.toList) = [Char.ofNat 99, Char.ofNat 117, Char.ofNat 116] :: rest) (hh : P.headLifts = []) : P.liftsFinal = false := by
 unfold Program.liftsFinal
 rw [hW, hh]
 have e1 : "carried".toList = [Char.ofNat 99, Char.ofNat 97, Char.ofNat 114, Char.ofNat 114, Char.ofNat 105, Char.ofNat 101, Char.ofNat 100] := String.toList_ofList (l := [Char.ofNat 99, Char.ofNat 97, Char.ofNat 114, Char.ofNat 114, Char.ofNat 105, Char.ofNat 101, Char.ofNat 100])
 simp [e1]
theorem e_lifted : Tryd.prog.liftsFinal = Rows.wireMessagesArriveRow.lifted := Zgx e_ws2 e_heads
end Go.Proofs.YtnehieeplbgaiacDoor
