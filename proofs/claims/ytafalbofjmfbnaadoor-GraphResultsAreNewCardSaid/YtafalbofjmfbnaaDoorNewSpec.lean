/-
  What comes back is new: the row and its card.
-/
import Derived.Test.YtafalbofjmfbnaaDoorPlain
import Derived.Test.YtafalbofjmfbnaaDoorFacts
set_option linter.unusedVariables false
set_option linter.unusedSimpArgs false
set_option maxRecDepth 100000
set_option maxHeartbeats 4000000
namespace Go.Proofs.YtafalbofjmfbnaaDoor
open Go Go.RowKit Go.ChangeShapes Go.WideShapes Go.ChangeAt Go.Proofs.YtafalbofjmfbnaaDoor.Eng
theorem Z3w (xs : List AV) (h : Z8t T 6 [22,23,3,23] xs) : FPure Tryd.prog 14 xs (.v (.bool true)) :=
 Zg4 (T := T) (m := 6) (ts := [22,23,3,23]) Q5.ok (by kernel_rfl) (fun x hx => law_RN' x hx) xs h
theorem Z2u (os : Os) (started : os.Started) (H : Type) (enc : TypeId × Value → H) :
  ReturnsInHanded {} Tryd.checked os 14 .any (fun w args => (Rows.graphResultsAreNewSpec.pre enc Tryd.prog Tryd.f14 Rows.graphResultsAreNewRow.domain false w args ∧ laidMetH Tryd.prog Rows.graphResultsAreNewRow.laid w) ∧ sizedMet enc Tryd.prog Tryd.f14 (OpenSpec.ofChange Rows.graphResultsAreNewSpec) false w args)
   (Rows.graphResultsAreNewSpec.post enc Tryd.prog Tryd.f14 false true false false) := by
 refine returnsInHanded_of_change_and (C := Tryd.checked) (X := fun w _ => laidMetH Tryd.prog Rows.graphResultsAreNewRow.laid w) (fun _ _ _ hh h => h.of_heap hh) own started (by kernel_rfl) Tryd.func14
  (ChangeSpec.witness_shaped (enc := enc) (C := Tryd.checked) (os := os) (X := fun w _ => laidMetH Tryd.prog Rows.graphResultsAreNewRow.laid w) false (World.laidAll Tryd.prog os Rows.graphResultsAreNewRow.laid) #[.slice none 0 0, .slice none 0 0, .int .i64 0, .slice none 0 0] 8 (World.laidAll_os _ _ _)
   (World.shaped_of_ZipB (by kernel_rfl) (by kernel_rfl)) (by kernel_rfl) (by kernel_rfl) (by kernel_rfl)
   (by rw [MakeChecks.laidMetH_plain _ _ _ (by kernel_rfl)]; exact laidMet_laidAll _ (by kernel_rfl) (by kernel_rfl))) ?_
 ·intro W base args ds gs before hval0 hW hcnd hsz0 hL _
  rw [MakeChecks.laidMetH_plain _ _ _ (by kernel_rfl)] at hL
  have hlay : Lays (Old W) W := fun p hp => by simp [LAID] at hp
  have hW' := hW
  obtain ⟨p, q, hA0, hV, rfl, hfz, hnd⟩ := hW
  have hsz : (DataW.weightsEach Tryd.prog (Tryd.f14.params.toList ++ Rows.graphResultsAreNewSpec.plain.varTypes Tryd.prog) (ds ++ gs)).all (· ≤ reachBytes) = true := hsz0
  have hA : DataW.TrodAll enc Tryd.prog W 0 (fun _ => true) true [22,23,3,23] args.toList ds p := hA0
  obtain ⟨rfl, rfl⟩ := trodVars_none hV
  have hlaw := Zg5 (r := .any) (b0 := base) hlay tabOK laidOut Z3w (by decide +kernel) (by kernel_rfl) hA (fun j t v h1 h2 => hval0 j t v (by simpa using h1) (by simpa using h2)) (by rw [List.append_nil] at hsz; exact hsz)
  simp only [Array.toArray_toList] at hlaw
  refine hlaw.mono fun e W' ⟨he, bel, hback⟩ => ?_
  subst he
  obtain ⟨d1, d2, d3, d4, hds⟩ : ∃ d1 d2 d3 d4, ds = [d1, d2, d3, d4] := by
   obtain ⟨_, _, d1, _, _, _, _, rfl, _, _, h⟩ := trodAll_cons hA
   obtain ⟨_, _, d2, _, _, _, _, rfl, _, _, h⟩ := trodAll_cons h
   obtain ⟨_, _, d3, _, _, _, _, rfl, _, _, h⟩ := trodAll_cons h
   obtain ⟨_, _, d4, _, _, _, _, rfl, _, _, h⟩ := trodAll_cons h
   obtain ⟨_, rfl, _⟩ := trodAll_nil h
   exact ⟨d1, d2, d3, d4, rfl⟩
  subst hds
  exact ⟨_, rfl, _, _, _, [], _, [], hW', trodAll_mk1 (shut_bool Tryd.underlying4 _), hback, rfl, bel.frame _, fun h => by cases h⟩
theorem graphResultsAreNew_facts : joinedFacts Tryd.prog 14 Tryd.f14 Rows.graphResultsAreNewSpec Rows.graphResultsAreNewRow = true := by
 unfold joinedFacts
 rw [laidOut, e_make, e_lifted, e_may]
 kernel_rfl
theorem graphResultsAreNew_over : Rows.graphResultsAreNewRow.holds Tryd.pinned (OpenSpec.ofChange Rows.graphResultsAreNewSpec) :=
 OpenClaim.holds_of_wide 14 Tryd.f14 rfl rfl rfl rfl rfl rfl rfl ⟨rfl, rfl, rfl, rfl, rfl⟩ rfl rfl rfl rfl rfl (by kernel_rfl) Tryd.func14 graphResultsAreNew_facts
  (of_decide_eq_true (by kernel_rfl)) (by unfold Func.isWrapper; first | (rw [if_pos (by decide +kernel)]; kernel_rfl) | (rw [if_neg (by decide +kernel)]; exact ⟨rfl, rfl⟩))
  (fun os started H enc _ => Z2u os started H enc)
theorem graphResultsAreNew_wf : Rows.graphResultsAreNewRow.wfByText (OpenSpec.ofChange Rows.graphResultsAreNewSpec) = true := by kernel_rfl
theorem graphResultsAreNew_main : Tryd.pinned.checked.prog.mainIs = some (true, "1092b4553f88940e8c582512ebac33dffa2401166445bdfd8d1fed2006d5252b".toList) := e_main
theorem graphResultsAreNew_looks : false = Tryd.pinned.checked.prog.looks [] := by kernel_rfl
theorem graphResultsAreNew_goes : false = Rows.graphResultsAreNewRow.goesBy Tryd.pinned.checked.prog := by kernel_rfl
theorem graphResultsAreNew_named : Tryd.prog.funcNamed "smithyard/smithyardlaw4.GraphResultsAreNew" = some 14 := by kernel_rfl
theorem graphResultsAreNew_noStand : ([22,23,3,23].all fun u => !Tryd.prog.wantsStandIn u) = true := by kernel_rfl
theorem graphResultsAreNew_holds : Rows.GraphResultsAreNewCardSaid :=
 Claim7.holds_tied_plain_at .later [] [.data, .pinned] true (true, "1092b4553f88940e8c582512ebac33dffa2401166445bdfd8d1fed2006d5252b") false graphResultsAreNew_over (fun _ h => by cases h) graphResultsAreNew_wf (fun _ h => by cases h) graphResultsAreNew_row_tie rfl ⟨rfl, rfl⟩ graphResultsAreNew_main rfl
  (fun f fn hf hfn => by
   obtain rfl : f = 14 := Option.some.inj (graphResultsAreNew_named.symm.trans hf) |>.symm
   obtain rfl : fn = Tryd.f14 := (Option.some.inj (Tryd.func14.symm.trans hfn)).symm
   exact ⟨graphResultsAreNew_looks, fun j t ht => by
    rw [Tryd.params14] at ht
    have hm : t ∈ [22,23,3,23] := by simpa using Array.mem_of_getElem? ht
    exact (show Tryd.prog.wantsStandIn t = false by simpa using List.all_eq_true.1 graphResultsAreNew_noStand t hm)⟩)
  graphResultsAreNew_goes
end Go.Proofs.YtafalbofjmfbnaaDoor
