/-
  The law WireMessagesArrive hands back true for every argument, and leaves its arguments as they were; its card is tied to the program. No condition.
-/
import Derived.Test.YtnehieeplbgaiacDoorPlain
import Derived.Test.YtnehieeplbgaiacDoorFacts
set_option linter.unusedVariables false
set_option linter.unusedSimpArgs false
set_option maxRecDepth 100000
set_option maxHeartbeats 4000000
namespace Go.Proofs.YtnehieeplbgaiacDoor
open Go Go.RowKit Go.ChangeShapes Go.WideShapes Go.ChangeAt Go.Proofs.YtnehieeplbgaiacDoor.Eng
theorem Z3x (xs : List AV) (h : Z95 T 6 [25,26,3] xs) : FPure Tryd.prog 3 xs (.v (.bool true)) :=
 Zh3 (T := T) (m := 6) (ts := [25,26,3]) Q2.ok (by kernel_rfl) (fun x hx => law_MA' x hx) xs h
theorem Z2s (os : Os) (started : os.Started) (H : Type) (enc : TypeId × Value → H) :
  ReturnsInHanded {} Tryd.checked os 3 .any (fun w args => (Rows.wireMessagesArriveSpec.pre enc Tryd.prog Tryd.f3 Rows.wireMessagesArriveRow.domain false w args ∧ laidMetH Tryd.prog Rows.wireMessagesArriveRow.laid w) ∧ sizedMet enc Tryd.prog Tryd.f3 (OpenSpec.ofChange Rows.wireMessagesArriveSpec) false w args)
   (Rows.wireMessagesArriveSpec.post enc Tryd.prog Tryd.f3 false true false false) := by
 refine returnsInHanded_of_change_and (C := Tryd.checked) (X := fun w _ => laidMetH Tryd.prog Rows.wireMessagesArriveRow.laid w) (fun _ _ _ hh h => h.of_heap hh) own started (by kernel_rfl) Tryd.func3
  (ChangeSpec.witness_shaped (enc := enc) (C := Tryd.checked) (os := os) (X := fun w _ => laidMetH Tryd.prog Rows.wireMessagesArriveRow.laid w) false (World.laidAll Tryd.prog os Rows.wireMessagesArriveRow.laid) #[.agg #[.slice none 0 0, .slice none 0 0], .slice none 0 0, .int .i64 0] 8 (World.laidAll_os _ _ _)
   (World.shaped_of_ZipB (by kernel_rfl) (by kernel_rfl)) (by kernel_rfl) (by kernel_rfl) (by kernel_rfl)
   (by rw [MakeChecks.laidMetH_plain _ _ _ (by kernel_rfl)]; exact laidMet_laidAll _ (by kernel_rfl) (by kernel_rfl))) ?_
 ·intro W base args ds gs before hval0 hW hcnd hsz0 hL _
  rw [MakeChecks.laidMetH_plain _ _ _ (by kernel_rfl)] at hL
  have hlay : Lays (Old W) W := fun p hp => by simp [LAID] at hp
  have hW' := hW
  obtain ⟨p, q, hA0, hV, rfl, hfz, hnd⟩ := hW
  have hsz : (DataW.weightsEach Tryd.prog (Tryd.f3.params.toList ++ Rows.wireMessagesArriveSpec.plain.varTypes Tryd.prog) (ds ++ gs)).all (· ≤ reachBytes) = true := hsz0
  have hA : DataW.TrodAll enc Tryd.prog W 0 (fun _ => true) true [25,26,3] args.toList ds p := hA0
  obtain ⟨rfl, rfl⟩ := trodVars_none hV
  have hlaw := Zh4 (r := .any) (b0 := base) hlay tabOK laidOut Z3x (by decide +kernel) (by kernel_rfl) hA (fun j t v h1 h2 => hval0 j t v (by simpa using h1) (by simpa using h2)) (by rw [List.append_nil] at hsz; exact hsz)
  simp only [Array.toArray_toList] at hlaw
  refine hlaw.mono fun e W' ⟨he, bel, hback⟩ => ?_
  subst he
  obtain ⟨d1, d2, d3, hds⟩ : ∃ d1 d2 d3, ds = [d1, d2, d3] := by
   obtain ⟨_, _, d1, _, _, _, _, rfl, _, _, h⟩ := trodAll_cons hA
   obtain ⟨_, _, d2, _, _, _, _, rfl, _, _, h⟩ := trodAll_cons h
   obtain ⟨_, _, d3, _, _, _, _, rfl, _, _, h⟩ := trodAll_cons h
   obtain ⟨_, rfl, _⟩ := trodAll_nil h
   exact ⟨d1, d2, d3, rfl⟩
  subst hds
  exact ⟨_, rfl, _, _, _, [], _, [], hW', trodAll_mk1 (shut_bool Tryd.underlying4 _), hback, rfl, bel.frame _, fun h => by cases h⟩
theorem wireMessagesArrive_facts : joinedFacts Tryd.prog 3 Tryd.f3 Rows.wireMessagesArriveSpec Rows.wireMessagesArriveRow = true := by
 unfold joinedFacts
 rw [laidOut, e_make, e_lifted, e_may]
 kernel_rfl
theorem wireMessagesArrive_over : Rows.wireMessagesArriveRow.holds Tryd.pinned (OpenSpec.ofChange Rows.wireMessagesArriveSpec) :=
 OpenClaim.holds_of_wide 3 Tryd.f3 rfl rfl rfl rfl rfl rfl rfl ⟨rfl, rfl, rfl, rfl, rfl⟩ rfl rfl rfl rfl rfl (by kernel_rfl) Tryd.func3 wireMessagesArrive_facts
  (of_decide_eq_true (by kernel_rfl)) (by unfold Func.isWrapper; first | (rw [if_pos (by decide +kernel)]; kernel_rfl) | (rw [if_neg (by decide +kernel)]; exact ⟨rfl, rfl⟩))
  (fun os started H enc _ => Z2s os started H enc)
theorem wireMessagesArrive_wf : Rows.wireMessagesArriveRow.wfByText (OpenSpec.ofChange Rows.wireMessagesArriveSpec) = true := by kernel_rfl
theorem wireMessagesArrive_main : Tryd.pinned.checked.prog.mainIs = some (true, "7713f35b31f6a322ed9460c2cc1ae9b755e11601b0fddfc3bfd366cf493c35c0".toList) := e_main
theorem wireMessagesArrive_looks : false = Tryd.pinned.checked.prog.looks [] := by kernel_rfl
theorem wireMessagesArrive_goes : false = Rows.wireMessagesArriveRow.goesBy Tryd.pinned.checked.prog := by kernel_rfl
theorem wireMessagesArrive_named : Tryd.prog.funcNamed "smithyard/smithyardlaw8.WireMessagesArrive" = some 3 := by kernel_rfl
theorem wireMessagesArrive_noStand : ([25,26,3].all fun u => !Tryd.prog.wantsStandIn u) = true := by kernel_rfl
theorem wireMessagesArrive_holds : Rows.WireMessagesArriveCardSaid :=
 Claim7.holds_tied_plain_at .later [] [.data, .pinned] true (true, "7713f35b31f6a322ed9460c2cc1ae9b755e11601b0fddfc3bfd366cf493c35c0") false wireMessagesArrive_over (fun _ h => by cases h) wireMessagesArrive_wf (fun _ h => by cases h) wireMessagesArrive_row_tie rfl ⟨rfl, rfl⟩ wireMessagesArrive_main rfl
  (fun f fn hf hfn => by
   obtain rfl : f = 3 := Option.some.inj (wireMessagesArrive_named.symm.trans hf) |>.symm
   obtain rfl : fn = Tryd.f3 := (Option.some.inj (Tryd.func3.symm.trans hfn)).symm
   exact ⟨wireMessagesArrive_looks, fun j t ht => by
    rw [Tryd.params3] at ht
    have hm : t ∈ [25,26,3] := by simpa using Array.mem_of_getElem? ht
    exact (show Tryd.prog.wantsStandIn t = false by simpa using List.all_eq_true.1 wireMessagesArrive_noStand t hm)⟩)
  wireMessagesArrive_goes
end Go.Proofs.YtnehieeplbgaiacDoor
