/-
  Part of a proof; nothing here is trusted.
-/
import Derived.Test.YtafalbofjmfbnaaDoorPlain
import Derived.Test.YtafalbofjmfbnaaDoorFacts
set_option linter.unusedVariables false
set_option linter.unusedSimpArgs false
set_option maxRecDepth 100000
set_option maxHeartbeats 4000000
namespace Go.Proofs.YtafalbofjmfbnaaDoor
open Go Go.RowKit Go.ChangeShapes Go.WideShapes Go.ChangeAt Go.Proofs.YtafalbofjmfbnaaDoor.Eng
theorem graphAffectedSpreads_av (xs : List AV) (h : ShapeA T 6 [22,23] xs) : FPure Tryd.prog 16 xs (.v (.bool true)) :=
 law_typed (T := T) (m := 6) (ts := [22,23]) law4_GraphAffectedSpreads.ok (by kernel_rfl) (fun x hx => law_AS' x hx) xs h
theorem graphAffectedSpreads_lifted (os : Os) (started : os.Started) (H : Type) (enc : TypeId × Value → H) :
  ReturnsInHanded {} Tryd.checked os 16 .any (fun w args => (Rows.graphAffectedSpreadsSpec.pre enc Tryd.prog Tryd.f16 Rows.graphAffectedSpreadsRow.domain false w args ∧ laidMetH Tryd.prog Rows.graphAffectedSpreadsRow.laid w) ∧ sizedMet enc Tryd.prog Tryd.f16 (OpenSpec.ofChange Rows.graphAffectedSpreadsSpec) false w args)
   (Rows.graphAffectedSpreadsSpec.post enc Tryd.prog Tryd.f16 false true false false) := by
 refine returnsInHanded_of_change_and (C := Tryd.checked) (X := fun w _ => laidMetH Tryd.prog Rows.graphAffectedSpreadsRow.laid w) (fun _ _ _ hh h => h.of_heap hh) own started (by kernel_rfl) Tryd.func16
  (ChangeSpec.witness_shaped (enc := enc) (C := Tryd.checked) (os := os) (X := fun w _ => laidMetH Tryd.prog Rows.graphAffectedSpreadsRow.laid w) false (World.laidAll Tryd.prog os Rows.graphAffectedSpreadsRow.laid) #[.slice none 0 0, .slice none 0 0] 8 (World.laidAll_os _ _ _)
   (World.shaped_of_ZipB (by kernel_rfl) (by kernel_rfl)) (by kernel_rfl) (by kernel_rfl) (by kernel_rfl)
   (by rw [MakeChecks.laidMetH_plain _ _ _ (by kernel_rfl)]; exact laidMet_laidAll _ (by kernel_rfl) (by kernel_rfl))) ?_
 ·intro W base args ds gs before hval0 hW hcnd hsz0 hL _
  rw [MakeChecks.laidMetH_plain _ _ _ (by kernel_rfl)] at hL
  have hlay : Lays (Old W) W := fun p hp => by simp [LAID] at hp
  have hW' := hW
  obtain ⟨p, q, hA0, hV, rfl, hfz, hnd⟩ := hW
  have hsz : (DataW.weightsEach Tryd.prog (Tryd.f16.params.toList ++ Rows.graphAffectedSpreadsSpec.plain.varTypes Tryd.prog) (ds ++ gs)).all (· ≤ reachBytes) = true := hsz0
  have hA : DataW.TrodAll enc Tryd.prog W 0 (fun _ => true) true [22,23] args.toList ds p := hA0
  obtain ⟨rfl, rfl⟩ := trodVars_none hV
  have hlaw := law_calls (r := .any) (b0 := base) hlay tabOK laidOut graphAffectedSpreads_av (by decide +kernel) (by kernel_rfl) hA (fun j t v h1 h2 => hval0 j t v (by simpa using h1) (by simpa using h2)) (by rw [List.append_nil] at hsz; exact hsz)
  simp only [Array.toArray_toList] at hlaw
  refine hlaw.mono fun e W' ⟨he, bel, hback⟩ => ?_
  subst he
  obtain ⟨d1, d2, hds⟩ : ∃ d1 d2, ds = [d1, d2] := by
   obtain ⟨_, _, d1, _, _, _, _, rfl, _, _, h⟩ := trodAll_cons hA
   obtain ⟨_, _, d2, _, _, _, _, rfl, _, _, h⟩ := trodAll_cons h
   obtain ⟨_, rfl, _⟩ := trodAll_nil h
   exact ⟨d1, d2, rfl⟩
  subst hds
  exact ⟨_, rfl, _, _, _, [], _, [], hW', trodAll_mk1 (shut_bool Tryd.underlying4 _), hback, rfl, bel.frame _, fun h => by cases h⟩
theorem graphAffectedSpreads_facts : joinedFacts Tryd.prog 16 Tryd.f16 Rows.graphAffectedSpreadsSpec Rows.graphAffectedSpreadsRow = true := by
 unfold joinedFacts
 rw [laidOut, e_make, e_lifted, e_may]
 kernel_rfl
theorem graphAffectedSpreads_over : Rows.graphAffectedSpreadsRow.holds Tryd.pinned (OpenSpec.ofChange Rows.graphAffectedSpreadsSpec) :=
 OpenClaim.holds_of_wide 16 Tryd.f16 rfl rfl rfl rfl rfl rfl rfl ⟨rfl, rfl, rfl, rfl, rfl⟩ rfl rfl rfl rfl rfl (by kernel_rfl) Tryd.func16 graphAffectedSpreads_facts
  (of_decide_eq_true (by kernel_rfl)) (by unfold Func.isWrapper; first | (rw [if_pos (by decide +kernel)]; kernel_rfl) | (rw [if_neg (by decide +kernel)]; exact ⟨rfl, rfl⟩))
  (fun os started H enc _ => graphAffectedSpreads_lifted os started H enc)
theorem graphAffectedSpreads_wf : Rows.graphAffectedSpreadsRow.wfByText (OpenSpec.ofChange Rows.graphAffectedSpreadsSpec) = true := by kernel_rfl
theorem graphAffectedSpreads_main : Tryd.pinned.checked.prog.mainIs = some (true, "1092b4553f88940e8c582512ebac33dffa2401166445bdfd8d1fed2006d5252b".toList) := e_main
theorem graphAffectedSpreads_looks : false = Tryd.pinned.checked.prog.looks [] := by kernel_rfl
theorem graphAffectedSpreads_goes : false = Rows.graphAffectedSpreadsRow.goesBy Tryd.pinned.checked.prog := by kernel_rfl
theorem graphAffectedSpreads_named : Tryd.prog.funcNamed "smithyard/smithyardlaw4.GraphAffectedSpreads" = some 16 := by kernel_rfl
theorem graphAffectedSpreads_noStand : ([22,23].all fun u => !Tryd.prog.wantsStandIn u) = true := by kernel_rfl
theorem graphAffectedSpreads_holds : Rows.GraphAffectedSpreadsCardSaid :=
 Claim7.holds_tied_plain_at .later [] [.data, .pinned] true (true, "1092b4553f88940e8c582512ebac33dffa2401166445bdfd8d1fed2006d5252b") false graphAffectedSpreads_over (fun _ h => by cases h) graphAffectedSpreads_wf (fun _ h => by cases h) graphAffectedSpreads_row_tie rfl ⟨rfl, rfl⟩ graphAffectedSpreads_main rfl
  (fun f fn hf hfn => by
   obtain rfl : f = 16 := Option.some.inj (graphAffectedSpreads_named.symm.trans hf) |>.symm
   obtain rfl : fn = Tryd.f16 := (Option.some.inj (Tryd.func16.symm.trans hfn)).symm
   exact ⟨graphAffectedSpreads_looks, fun j t ht => by
    rw [Tryd.params16] at ht
    have hm : t ∈ [22,23] := by simpa using Array.mem_of_getElem? ht
    exact (show Tryd.prog.wantsStandIn t = false by simpa using List.all_eq_true.1 graphAffectedSpreads_noStand t hm)⟩)
  graphAffectedSpreads_goes
end Go.Proofs.YtafalbofjmfbnaaDoor
