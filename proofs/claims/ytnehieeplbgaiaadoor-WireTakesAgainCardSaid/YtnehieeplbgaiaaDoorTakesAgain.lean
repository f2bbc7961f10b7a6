/-
  The law WireTakesAgain hands back true for every argument, and leaves its arguments as they were; its card is tied to the program. No condition.
-/
import Derived.Test.YtnehieeplbgaiaaDoorPlain
import Derived.Test.YtnehieeplbgaiaaDoorFacts
set_option linter.unusedVariables false
set_option linter.unusedSimpArgs false
set_option maxRecDepth 100000
set_option maxHeartbeats 4000000
namespace Go.Proofs.YtnehieeplbgaiaaDoor
open Go Go.RowKit Go.ChangeShapes Go.WideShapes Go.ChangeAt Go.Proofs.YtnehieeplbgaiaaDoor.Eng
theorem Z5v (xs : List AV) (h : Z95 T 6 [25,28] xs) : FPure Tryd.prog 3 xs (.v (.bool true)) :=
 Zgq (T := T) (m := 6) (ts := [25,28]) Qh.ok (by kernel_rfl) (fun x hx => law_TA' x hx) xs h
theorem Z3u (os : Os) (started : os.Started) (H : Type) (enc : TypeId × Value → H) :
  ReturnsInHanded {} Tryd.checked os 3 .any (fun w args => (Rows.wireTakesAgainSpec.pre enc Tryd.prog Tryd.f3 Rows.wireTakesAgainRow.domain false w args ∧ laidMetH Tryd.prog Rows.wireTakesAgainRow.laid w) ∧ sizedMet enc Tryd.prog Tryd.f3 (OpenSpec.ofChange Rows.wireTakesAgainSpec) false w args)
   (Rows.wireTakesAgainSpec.post enc Tryd.prog Tryd.f3 false true false false) := by
 refine returnsInHanded_of_change_and (C := Tryd.checked) (X := fun w _ => laidMetH Tryd.prog Rows.wireTakesAgainRow.laid w) (fun _ _ _ hh h => h.of_heap hh) own started (by kernel_rfl) Tryd.func3
  (ChangeSpec.witness_shaped (enc := enc) (C := Tryd.checked) (os := os) (X := fun w _ => laidMetH Tryd.prog Rows.wireTakesAgainRow.laid w) false (World.laidAll Tryd.prog os Rows.wireTakesAgainRow.laid) #[.agg #[.slice none 0 0, .slice none 0 0], .agg #[.int .i64 0, .string ⟨#[]⟩, .int .i64 0, .int .i64 0, .slice none 0 0]] 8 (World.laidAll_os _ _ _)
   (World.shaped_of_ZipB (by kernel_rfl) (by kernel_rfl)) (by kernel_rfl) (by kernel_rfl) (by kernel_rfl)
   (by rw [MakeChecks.laidMetH_plain _ _ _ (by kernel_rfl)]; exact laidMet_laidAll _ (by kernel_rfl) (by kernel_rfl))) ?_
 ·intro W base args ds gs before hval0 hW hcnd hsz0 hL _
  rw [MakeChecks.laidMetH_plain _ _ _ (by kernel_rfl)] at hL
  have hlay : Lays (Old W) W := fun p hp => by simp [LAID] at hp
  have hW' := hW
  obtain ⟨p, q, hA0, hV, rfl, hfz, hnd⟩ := hW
  have hsz : (DataW.weightsEach Tryd.prog (Tryd.f3.params.toList ++ Rows.wireTakesAgainSpec.plain.varTypes Tryd.prog) (ds ++ gs)).all (· ≤ reachBytes) = true := hsz0
  have hA : DataW.TrodAll enc Tryd.prog W 0 (fun _ => true) true [25,28] args.toList ds p := hA0
  obtain ⟨rfl, rfl⟩ := trodVars_none hV
  have hlaw := Zgr (r := .any) (b0 := base) hlay tabOK laidOut Z5v (by decide +kernel) (by kernel_rfl) hA (fun j t v h1 h2 => hval0 j t v (by simpa using h1) (by simpa using h2)) (by rw [List.append_nil] at hsz; exact hsz)
  simp only [Array.toArray_toList] at hlaw
  refine hlaw.mono fun e W' ⟨he, bel, hback⟩ => ?_
  subst he
  obtain ⟨d1, d2, hds⟩ : ∃ d1 d2, ds = [d1, d2] := by
   obtain ⟨_, _, d1, _, _, _, _, rfl, _, _, h⟩ := trodAll_cons hA
   obtain ⟨_, _, d2, _, _, _, _, rfl, _, _, h⟩ := trodAll_cons h
   obtain ⟨_, rfl, _⟩ := trodAll_nil h
   exact ⟨d1, d2, rfl⟩
  subst hds
  exact ⟨_, rfl, _, _, _, [], _, [], hW', trodAll_mk1 (shut_bool Tryd.underlying4 _), hback, rfl, bel.frame _, fun h => by cases h⟩
theorem wireTakesAgain_facts : joinedFacts Tryd.prog 3 Tryd.f3 Rows.wireTakesAgainSpec Rows.wireTakesAgainRow = true := by
 unfold joinedFacts
 rw [laidOut, e_make, e_lifted, e_may]
 kernel_rfl
theorem wireTakesAgain_over : Rows.wireTakesAgainRow.holds Tryd.pinned (OpenSpec.ofChange Rows.wireTakesAgainSpec) :=
 OpenClaim.holds_of_wide 3 Tryd.f3 rfl rfl rfl rfl rfl rfl rfl ⟨rfl, rfl, rfl, rfl, rfl⟩ rfl rfl rfl rfl rfl (by kernel_rfl) Tryd.func3 wireTakesAgain_facts
  (of_decide_eq_true (by kernel_rfl)) (by unfold Func.isWrapper; first | (rw [if_pos (by decide +kernel)]; kernel_rfl) | (rw [if_neg (by decide +kernel)]; exact ⟨rfl, rfl⟩))
  (fun os started H enc _ => Z3u os started H enc)
theorem wireTakesAgain_wf : Rows.wireTakesAgainRow.wfByText (OpenSpec.ofChange Rows.wireTakesAgainSpec) = true := by kernel_rfl
theorem wireTakesAgain_main : Tryd.pinned.checked.prog.mainIs = some (true, "9c25c018fa5bb47a672eefc30760978ad2124d802f060c4c162fa8bf6310e2e5".toList) := e_main
theorem wireTakesAgain_looks : false = Tryd.pinned.checked.prog.looks [] := by kernel_rfl
theorem wireTakesAgain_goes : false = Rows.wireTakesAgainRow.goesBy Tryd.pinned.checked.prog := by kernel_rfl
theorem wireTakesAgain_named : Tryd.prog.funcNamed "smithyard/smithyardlaw8.WireTakesAgain" = some 3 := by kernel_rfl
theorem wireTakesAgain_noStand : ([25,28].all fun u => !Tryd.prog.wantsStandIn u) = true := by kernel_rfl
theorem wireTakesAgain_holds : Rows.WireTakesAgainCardSaid :=
 Claim7.holds_tied_plain_at .later [] [.data, .pinned] true (true, "9c25c018fa5bb47a672eefc30760978ad2124d802f060c4c162fa8bf6310e2e5") false wireTakesAgain_over (fun _ h => by cases h) wireTakesAgain_wf (fun _ h => by cases h) wireTakesAgain_row_tie rfl ⟨rfl, rfl⟩ wireTakesAgain_main rfl
  (fun f fn hf hfn => by
   obtain rfl : f = 3 := Option.some.inj (wireTakesAgain_named.symm.trans hf) |>.symm
   obtain rfl : fn = Tryd.f3 := (Option.some.inj (Tryd.func3.symm.trans hfn)).symm
   exact ⟨wireTakesAgain_looks, fun j t ht => by
    rw [Tryd.params3] at ht
    have hm : t ∈ [25,28] := by simpa using Array.mem_of_getElem? ht
    exact (show Tryd.prog.wantsStandIn t = false by simpa using List.all_eq_true.1 wireTakesAgain_noStand t hm)⟩)
  wireTakesAgain_goes
end Go.Proofs.YtnehieeplbgaiaaDoor
