/-
  Closed facts of this program that are dear: what is laid at the start, read sign by sign.
-/
import Derived.Test.YtahlodpolggeiaaGreatDoorRows
import Derived.ProofKit
import Derived.OpenShut
set_option maxRecDepth 100000
set_option maxHeartbeats 4000000
namespace Go.Proofs.YtahlodpolggeiaaGreatDoor
open Go Go.RowKit
/-- The order of what is laid at the start, sign by sign. -/
def ioL : List Char := ['h','a','r','n','e','s','s',' ','4','c','2','a','2','9','d','8','3','0','7','c','e','d','c','b','9','c','2','6','d','5','1','e','f','8','5','5','0','f','1','6','7','0','b','9','7','7','1','b','b','9','7','1','b','1','a','f','a','8','a','6','5','e','1','e','8','6','1','6','d','b','3','6',' ','c','u','t',' ','a','t',' ','s','m','i','t','h','y','a','r','d','/','s','m','i','t','h','y','a','r','d','l','a','w','1','1','.','T','r','u','s','t','L','o','g','s','G','r','o','w',' ','s','m','i','t','h','y','a','r','d','/','s','m','i','t','h','y','a','r','d','l','a','w','1','1','.','T','r','u','s','t','S','i','g','n','e','d','I','s','G','e','n','u','i','n','e',' ','s','m','i','t','h','y','a','r','d','/','s','m','i','t','h','y','a','r','d','l','a','w','1','1','.','T','r','u','s','t','S','i','g','n','s','M','a','t','c','h','S','p','e','c',' ','s','m','i','t','h','y','a','r','d','/','s','m','i','t','h','y','a','r','d','l','a','w','1','1','.','T','r','u','s','t','A','g','r','e','e','d','O','f','M','o','r','e',' ','s','m','i','t','h','y','a','r','d','/','s','m','i','t','h','y','a','r','d','l','a','w','1','1','.','T','r','u','s','t','H','e','a','d','s','M','a','t','c','h','S','p','e','c',' ','s','m','i','t','h','y','a','r','d','/','s','m','i','t','h','y','a','r','d','l','a','w','1','1','.','T','r','u','s','t','T','r','u','s','t','e','d','I','s','G','o','o','d',' ','s','m','i','t','h','y','a','r','d','/','s','m','i','t','h','y','a','r','d','l','a','w','1','1','.','T','r','u','s','t','D','u','e','I','s','E','a','c','h',' ','s','m','i','t','h','y','a','r','d','/','s','m','i','t','h','y','a','r','d','l','a','w','1','1','.','T','r','u','s','t','W','r','o','n','g','I','s','T','a','i','n','t','e','d',' ','s','m','i','t','h','y','a','r','d','/','s','m','i','t','h','y','a','r','d','l','a','w','1','1','.','T','r','u','s','t','T','a','i','n','t','e','d','M','a','t','c','h','e','s','S','p','e','c',' ','s','m','i','t','h','y','a','r','d','/','s','m','i','t','h','y','a','r','d','l','a','w','1','1','.','T','r','u','s','t','R','e','a','d','s','M','a','t','c','h','S','p','e','c',' ','s','m','i','t','h','y','a','r','d','/','s','m','i','t','h','y','a','r','d','l','a','w','1','1','.','T','r','u','s','t','T','e','x','t','s','M','a','t','c','h','S','p','e','c',' ','s','m','i','t','h','y','a','r','d','/','s','m','i','t','h','y','a','r','d','l','a','w','1','1','.','T','r','u','s','t','R','e','s','u','l','t','s','A','r','e','N','e','w',' ','s','m','i','t','h','y','a','r','d','/','s','m','i','t','h','y','a','r','d','l','a','w','1','1','.','T','r','u','s','t','A','g','r','e','e','d','M','a','t','c','h','e','s','S','p','e','c',' ','s','m','i','t','h','y','a','r','d','/','s','m','i','t','h','y','a','r','d','l','a','w','1','1','.','T','r','u','s','t','T','r','u','s','t','e','d','M','a','t','c','h','e','s','S','p','e','c',' ','s','m','i','t','h','y','a','r','d','/','s','m','i','t','h','y','a','r','d','l','a','w','1','1','.','T','r','u','s','t','D','u','e','M','a','t','c','h','e','s','S','p','e','c']
def ioS : List Char := (wordsSigns ioL).getD 1 []
def ioW : List (List Char) := (wordsSigns ioL).drop 2
theorem e_io : Tryz.prog.initOrder = String.ofList ioL := by kernel_rfl
theorem e_wa : wordsSigns Tryz.prog.initOrder.toList = ['h','a','r','n','e','s','s'] :: ioS :: ioW := by
  rw [e_io, String.toList_ofList]
  kernel_rfl
theorem main_of {P : Program} {sg : List Char} {rest : List (List Char)} (hW : wordsSigns P.initOrder.toList = ['h','a','r','n','e','s','s'] :: sg :: rest) (hs : isSumSigns sg = true) : P.mainIs = some (true, sg) ∧ behindMainWord (wordsSigns P.initOrder.toList) = rest := by
  have e1 : "harness".toList = ['h','a','r','n','e','s','s'] := String.toList_ofList (l := ['h','a','r','n','e','s','s'])
  unfold Program.mainIs
  rw [hW]
  constructor
  · simp [e1, hs]
  · simp [behindMainWord, e1, hs]
theorem e_sum : isSumSigns ioS = true := by kernel_rfl
theorem e_ws : behindMainWord (wordsSigns Tryz.prog.initOrder.toList) = ioW := (main_of e_wa e_sum).2
theorem e_main : Tryz.pinned.checked.prog.mainIs = some (true, "4c2a29d8307cedcb9c26d51ef8550f1670b9771bb971b1afa8a65e1e8616db36".toList) := by
  have e1 : "4c2a29d8307cedcb9c26d51ef8550f1670b9771bb971b1afa8a65e1e8616db36".toList = ioS := String.toList_ofList (l := ioS)
  rw [e1]
  exact (main_of e_wa e_sum).1
end Go.Proofs.YtahlodpolggeiaaGreatDoor
set_option maxRecDepth 100000
set_option maxHeartbeats 4000000
namespace Go.Proofs.YtahlodpolggeiaaGreatDoor
open Go Go.RowKit
theorem strip_none {w : List Char} {ws : List (List Char)} : ∀ os : List String, (∀ o ∈ os, o ≠ String.ofList w) → stripLifts os (w :: ws) = ([], w :: ws)
  | [], _ => rfl
  | o :: os, h => by
    have h1 : (w == o.toList) = false := by
      refine beq_eq_false_iff_ne.2 fun e => h o (List.mem_cons_self ..) ?_
      rw [e, String.ofList_toList]
    unfold stripLifts
    rw [h1]
    exact strip_none os fun x hx => h x (List.mem_cons_of_mem _ hx)
def ioR : List (List Char) := ioW.tail
theorem e_iw : ioW = ['c', 'u', 't'] :: ioR := by kernel_rfl
theorem e_ws2 : behindMainWord (wordsSigns Tryz.prog.initOrder.toList) = ['c', 'u', 't'] :: ioR := e_ws.trans e_iw
theorem e_strip : stripLifts liftWords (['c', 'u', 't'] :: ioR) = ([], ['c', 'u', 't'] :: ioR) := strip_none _ (by decide)
theorem e_cut : "cut".toList = ['c', 'u', 't'] := String.toList_ofList (l := ['c', 'u', 't'])
theorem e_heads : Tryz.prog.headLifts = [] := by
  unfold Program.headLifts
  rw [e_ws2, e_strip]
  simp
theorem e_ll : Tryz.prog.laysLater = false := by kernel_rfl
theorem e_br : Tryz.prog.bearsReflect = false := by kernel_rfl
theorem e_df : Tryz.prog.doorFits [] = true := by kernel_rfl
theorem may_of {P : Program} {rest : List (List Char)} (hW : behindMainWord (wordsSigns P.initOrder.toList) = ['c', 'u', 't'] :: rest) (hs : stripLifts liftWords (['c', 'u', 't'] :: rest) = ([], ['c', 'u', 't'] :: rest)) (h1 : P.laysLater = false) (h2 : P.bearsReflect = false) (h3 : P.doorFits [] = true) : P.mayEnter = true := by
  unfold Program.mayEnter
  rw [hW]
  simp [hs, h1, h2, h3, e_cut]
theorem e_may : Tryz.prog.mayEnter = true := may_of e_ws2 e_strip e_ll e_br e_df
theorem make_of {P : Program} {rest : List (List Char)} (hW : behindMainWord (wordsSigns P.initOrder.toList) = ['c', 'u', 't'] :: rest) : P.make = some .cut := by
  unfold Program.make
  rw [hW]
  have e1 : "gc".toList = ['g', 'c'] := String.toList_ofList (l := ['g', 'c'])
  have e2 : "spec".toList = ['s', 'p', 'e', 'c'] := String.toList_ofList (l := ['s', 'p', 'e', 'c'])
  simp [e1, e2, e_cut]
theorem e_make : Tryz.prog.make = some Rows.trustLogsGrowRow.make := make_of e_ws2
theorem lifted_of {P : Program} {rest : List (List Char)} (hW : behindMainWord (wordsSigns P.initOrder.toList) = ['c', 'u', 't'] :: rest) (hh : P.headLifts = []) : P.liftsFinal = false := by
  unfold Program.liftsFinal
  rw [hW, hh]
  have e1 : "carried".toList = ['c', 'a', 'r', 'r', 'i', 'e', 'd'] := String.toList_ofList (l := ['c', 'a', 'r', 'r', 'i', 'e', 'd'])
  simp [e1]
theorem e_lifted : Tryz.prog.liftsFinal = Rows.trustLogsGrowRow.lifted := lifted_of e_ws2 e_heads
end Go.Proofs.YtahlodpolggeiaaGreatDoor
