/-
  Part of a proof; nothing here is trusted.
-/
import Derived.Test.YtnehieeplbgaiabDoorPlain
import Derived.Test.YtnehieeplbgaiabDoorFacts
set_option linter.unusedVariables false
set_option linter.unusedSimpArgs false
set_option maxRecDepth 100000
set_option maxHeartbeats 4000000
namespace Go.Proofs.YtnehieeplbgaiabDoor
open Go Go.RowKit Go.ChangeShapes Go.WideShapes Go.ChangeAt Go.Proofs.YtnehieeplbgaiabDoor.Eng
theorem Z3u (xs : List AV) (h : Z90 T 6 [25,28] xs) : FPure Tryd.prog 3 xs (.v (.bool true)) :=
 Zgo (T := T) (m := 6) (ts := [25,28]) Q4.ok (by kernel_rfl) (fun x hx => law_TR' x hx) xs h
theorem Z2o (os : Os) (started : os.Started) (H : Type) (enc : TypeId × Value → H) :
  ReturnsInHanded {} Tryd.checked os 3 .any (fun w args => (Rows.wireTakesStayRightSpec.pre enc Tryd.prog Tryd.f3 Rows.wireTakesStayRightRow.domain false w args ∧ laidMetH Tryd.prog Rows.wireTakesStayRightRow.laid w) ∧ sizedMet enc Tryd.prog Tryd.f3 (OpenSpec.ofChange Rows.wireTakesStayRightSpec) false w args)
   (Rows.wireTakesStayRightSpec.post enc Tryd.prog Tryd.f3 false true false false) := by
 refine returnsInHanded_of_change_and (C := Tryd.checked) (X := fun w _ => laidMetH Tryd.prog Rows.wireTakesStayRightRow.laid w) (fun _ _ _ hh h => h.of_heap hh) own started (by kernel_rfl) Tryd.func3
  (ChangeSpec.witness_shaped (enc := enc) (C := Tryd.checked) (os := os) (X := fun w _ => laidMetH Tryd.prog Rows.wireTakesStayRightRow.laid w) false (World.laidAll Tryd.prog os Rows.wireTakesStayRightRow.laid) #[.agg #[.slice none 0 0, .slice none 0 0], .agg #[.int .i64 0, .string ⟨#[]⟩, .int .i64 0, .int .i64 0, .slice none 0 0]] 8 (World.laidAll_os _ _ _)
   (World.shaped_of_ZipB (by kernel_rfl) (by kernel_rfl)) (by kernel_rfl) (by kernel_rfl) (by kernel_rfl)
   (by rw [MakeChecks.laidMetH_plain _ _ _ (by kernel_rfl)]; exact laidMet_laidAll _ (by kernel_rfl) (by kernel_rfl))) ?_
 ·intro W base args ds gs before hval0 hW hcnd hsz0 hL _
  rw [MakeChecks.laidMetH_plain _ _ _ (by kernel_rfl)] at hL
  have hlay : Lays (Old W) W := fun p hp => by simp [LAID] at hp
  have hW' := hW
  obtain ⟨p, q, hA0, hV, rfl, hfz, hnd⟩ := hW
  have hsz : (DataW.weightsEach Tryd.prog (Tryd.f3.params.toList ++ Rows.wireTakesStayRightSpec.plain.varTypes Tryd.prog) (ds ++ gs)).all (· ≤ reachBytes) = true := hsz0
  have hA : DataW.TrodAll enc Tryd.prog W 0 (fun _ => true) true [25,28] args.toList ds p := hA0
  obtain ⟨rfl, rfl⟩ := trodVars_none hV
  have hlaw := Zgp (r := .any) (b0 := base) hlay tabOK laidOut Z3u (by decide +kernel) (by kernel_rfl) hA (fun j t v h1 h2 => hval0 j t v (by simpa using h1) (by simpa using h2)) (by rw [List.append_nil] at hsz; exact hsz)
  simp only [Array.toArray_toList] at hlaw
  refine hlaw.mono fun e W' ⟨he, bel, hback⟩ => ?_
  subst he
  obtain ⟨d1, d2, hds⟩ : ∃ d1 d2, ds = [d1, d2] := by
   obtain ⟨_, _, d1, _, _, _, _, rfl, _, _, h⟩ := trodAll_cons hA
   obtain ⟨_, _, d2, _, _, _, _, rfl, _, _, h⟩ := trodAll_cons h
   obtain ⟨_, rfl, _⟩ := trodAll_nil h
   exact ⟨d1, d2, rfl⟩
  subst hds
  exact ⟨_, rfl, _, _, _, [], _, [], hW', trodAll_mk1 (shut_bool Tryd.underlying4 _), hback, rfl, bel.frame _, fun h => by cases h⟩
theorem wireTakesStayRight_facts : joinedFacts Tryd.prog 3 Tryd.f3 Rows.wireTakesStayRightSpec Rows.wireTakesStayRightRow = true := by
 unfold joinedFacts
 rw [laidOut, e_make, e_lifted, e_may]
 kernel_rfl
theorem wireTakesStayRight_over : Rows.wireTakesStayRightRow.holds Tryd.pinned (OpenSpec.ofChange Rows.wireTakesStayRightSpec) :=
 OpenClaim.holds_of_wide 3 Tryd.f3 rfl rfl rfl rfl rfl rfl rfl ⟨rfl, rfl, rfl, rfl, rfl⟩ rfl rfl rfl rfl rfl (by kernel_rfl) Tryd.func3 wireTakesStayRight_facts
  (of_decide_eq_true (by kernel_rfl)) (by unfold Func.isWrapper; first | (rw [if_pos (by decide +kernel)]; kernel_rfl) | (rw [if_neg (by decide +kernel)]; exact ⟨rfl, rfl⟩))
  (fun os started H enc _ => Z2o os started H enc)
theorem wireTakesStayRight_wf : Rows.wireTakesStayRightRow.wfByText (OpenSpec.ofChange Rows.wireTakesStayRightSpec) = true := by kernel_rfl
theorem wireTakesStayRight_main : Tryd.pinned.checked.prog.mainIs = some (true, "cf2f03a4d16f3733e01ad1552b0faeb6e9f1203026cae78f850d869990b31417".toList) := e_main
theorem wireTakesStayRight_looks : false = Tryd.pinned.checked.prog.looks [] := by kernel_rfl
theorem wireTakesStayRight_goes : false = Rows.wireTakesStayRightRow.goesBy Tryd.pinned.checked.prog := by kernel_rfl
theorem wireTakesStayRight_named : Tryd.prog.funcNamed "smithyard/smithyardlaw8.WireTakesStayRight" = some 3 := by kernel_rfl
theorem wireTakesStayRight_noStand : ([25,28].all fun u => !Tryd.prog.wantsStandIn u) = true := by kernel_rfl
theorem wireTakesStayRight_holds : Rows.WireTakesStayRightCardSaid :=
 Claim7.holds_tied_plain_at .later [] [.data, .pinned] true (true, "cf2f03a4d16f3733e01ad1552b0faeb6e9f1203026cae78f850d869990b31417") false wireTakesStayRight_over (fun _ h => by cases h) wireTakesStayRight_wf (fun _ h => by cases h) wireTakesStayRight_row_tie rfl ⟨rfl, rfl⟩ wireTakesStayRight_main rfl
  (fun f fn hf hfn => by
   obtain rfl : f = 3 := Option.some.inj (wireTakesStayRight_named.symm.trans hf) |>.symm
   obtain rfl : fn = Tryd.f3 := (Option.some.inj (Tryd.func3.symm.trans hfn)).symm
   exact ⟨wireTakesStayRight_looks, fun j t ht => by
    rw [Tryd.params3] at ht
    have hm : t ∈ [25,28] := by simpa using Array.mem_of_getElem? ht
    exact (show Tryd.prog.wantsStandIn t = false by simpa using List.all_eq_true.1 wireTakesStayRight_noStand t hm)⟩)
  wireTakesStayRight_goes
end Go.Proofs.YtnehieeplbgaiabDoor
