/-
  Part of a proof; nothing here is trusted.
-/
import Derived.Test.YtahlodpolggeiaaGreatDoorZPlain
import Derived.Test.YtahlodpolggeiaaGreatDoorZUp
import Derived.Test.YtahlodpolggeiaaGreatDoorZFa
set_option linter.unusedVariables false
set_option linter.unusedSimpArgs false
set_option maxRecDepth 100000
set_option maxHeartbeats 4000000
namespace Go.Proofs.YtahlodpolggeiaaGreatDoor
open Go Go.RowKit Go.ChangeShapes Go.WideShapes Go.ChangeAt Go.Proofs.YtahlodpolggeiaaGreatDoor.Eng
theorem trustWrongIsTainted_av (xs : List AV) (h : ShapeA T 6 [22,56] xs) : FPure Tryz.prog 10 xs (.v (.bool true)) :=
 law_typed (T := T) (m := 6) (ts := [22,56]) law11_TrustWrongIsTainted.ok (by kernel_rfl) (fun x hx => law_WT' x hx) xs h
theorem trustWrongIsTainted_lifted (os : Os) (started : os.Started) (H : Type) (enc : TypeId × Value → H) :
  ReturnsInHanded {} Tryz.checked os 10 .any (fun w args => (Rows.trustWrongIsTaintedSpec.pre enc Tryz.prog Tryz.f10 Rows.trustWrongIsTaintedRow.domain false w args ∧ laidMetH Tryz.prog Rows.trustWrongIsTaintedRow.laid w) ∧ sizedMet enc Tryz.prog Tryz.f10 (OpenSpec.ofChange Rows.trustWrongIsTaintedSpec) false w args)
   (Rows.trustWrongIsTaintedSpec.post enc Tryz.prog Tryz.f10 false true false false) := by
 refine returnsInHanded_of_change_and (C := Tryz.checked) (X := fun w _ => laidMetH Tryz.prog Rows.trustWrongIsTaintedRow.laid w) (fun _ _ _ hh h => h.of_heap hh) own started (by kernel_rfl) Tryz.func10
  (ChangeSpec.witness_shaped (enc := enc) (C := Tryz.checked) (os := os) (X := fun w _ => laidMetH Tryz.prog Rows.trustWrongIsTaintedRow.laid w) false (World.laidAll Tryz.prog os Rows.trustWrongIsTaintedRow.laid) #[.slice none 0 0, .slice none 0 0] 8 (World.laidAll_os _ _ _)
   (World.shaped_of_ZipB (by kernel_rfl) (by kernel_rfl)) (by kernel_rfl) (by kernel_rfl) (by kernel_rfl)
   (by rw [MakeChecks.laidMetH_plain _ _ _ (by kernel_rfl)]; exact laidMet_laidAll _ (by kernel_rfl) (by kernel_rfl))) ?_
 ·intro W base args ds gs before hval0 hW hcnd hsz0 hL _
  rw [MakeChecks.laidMetH_plain _ _ _ (by kernel_rfl)] at hL
  have hlay : Lays (Old W) W := fun p hp => by simp [LAID] at hp
  have hW' := hW
  obtain ⟨p, q, hA0, hV, rfl, hfz, hnd⟩ := hW
  have hsz : (DataW.weightsEach Tryz.prog (Tryz.f10.params.toList ++ Rows.trustWrongIsTaintedSpec.plain.varTypes Tryz.prog) (ds ++ gs)).all (· ≤ reachBytes) = true := hsz0
  have hA : DataW.TrodAll enc Tryz.prog W 0 (fun _ => true) true [22,56] args.toList ds p := hA0
  obtain ⟨rfl, rfl⟩ := trodVars_none hV
  have hlaw := law_calls (r := .any) (b0 := base) hlay tabOK laidOut trustWrongIsTainted_av (by decide +kernel) (by kernel_rfl) hA (fun j t v h1 h2 => hval0 j t v (by simpa using h1) (by simpa using h2)) (by rw [List.append_nil] at hsz; exact hsz)
  simp only [Array.toArray_toList] at hlaw
  refine hlaw.mono fun e W' ⟨he, bel, hback⟩ => ?_
  subst he
  obtain ⟨d1, d2, hds⟩ : ∃ d1 d2, ds = [d1, d2] := by
   obtain ⟨_, _, d1, _, _, _, _, rfl, _, _, h⟩ := trodAll_cons hA
   obtain ⟨_, _, d2, _, _, _, _, rfl, _, _, h⟩ := trodAll_cons h
   obtain ⟨_, rfl, _⟩ := trodAll_nil h
   exact ⟨d1, d2, rfl⟩
  subst hds
  exact ⟨_, rfl, _, _, _, [], _, [], hW', trodAll_mk1 (shut_bool Tryz.underlying4 _), hback, rfl, bel.frame _, fun h => by cases h⟩
theorem trustWrongIsTainted_facts : joinedFacts Tryz.prog 10 Tryz.f10 Rows.trustWrongIsTaintedSpec Rows.trustWrongIsTaintedRow = true := by
 unfold joinedFacts
 rw [laidOut, e_make, e_lifted, e_may]
 kernel_rfl
theorem trustWrongIsTainted_over : Rows.trustWrongIsTaintedRow.holds Tryz.pinned (OpenSpec.ofChange Rows.trustWrongIsTaintedSpec) :=
 OpenClaim.holds_of_wide 10 Tryz.f10 rfl rfl rfl rfl rfl rfl rfl ⟨rfl, rfl, rfl, rfl, rfl⟩ rfl rfl rfl rfl rfl (by kernel_rfl) Tryz.func10 trustWrongIsTainted_facts
  (of_decide_eq_true (by kernel_rfl)) (by unfold Func.isWrapper; first | (rw [if_pos (by decide +kernel)]; kernel_rfl) | (rw [if_neg (by decide +kernel)]; exact ⟨rfl, rfl⟩))
  (fun os started H enc _ => trustWrongIsTainted_lifted os started H enc)
theorem trustWrongIsTainted_wf : Rows.trustWrongIsTaintedRow.wfByText (OpenSpec.ofChange Rows.trustWrongIsTaintedSpec) = true := by kernel_rfl
theorem trustWrongIsTainted_main : Tryz.pinned.checked.prog.mainIs = some (true, "4c2a29d8307cedcb9c26d51ef8550f1670b9771bb971b1afa8a65e1e8616db36".toList) := e_main
theorem trustWrongIsTainted_looks : true = Tryz.pinned.checked.prog.looks [] := by kernel_rfl
theorem trustWrongIsTainted_goes : false = Rows.trustWrongIsTaintedRow.goesBy Tryz.pinned.checked.prog := by kernel_rfl
theorem trustWrongIsTainted_named : Tryz.prog.funcNamed "smithyard/smithyardlaw11.TrustWrongIsTainted" = some 10 := by kernel_rfl
theorem trustWrongIsTainted_noStand : ([22,56].all fun u => !Tryz.prog.wantsStandIn u) = true := by kernel_rfl
theorem trustWrongIsTainted_holds : Rows.TrustWrongIsTaintedCardSaid :=
 Claim7.holds_tied_plain_at .later [] [.data, .pinned] true (true, "4c2a29d8307cedcb9c26d51ef8550f1670b9771bb971b1afa8a65e1e8616db36") true trustWrongIsTainted_over (fun _ h => by cases h) trustWrongIsTainted_wf (fun _ h => by cases h) trustWrongIsTainted_row_tie rfl ⟨rfl, rfl⟩ trustWrongIsTainted_main rfl
  (fun f fn hf hfn => by
   obtain rfl : f = 10 := Option.some.inj (trustWrongIsTainted_named.symm.trans hf) |>.symm
   obtain rfl : fn = Tryz.f10 := (Option.some.inj (Tryz.func10.symm.trans hfn)).symm
   exact ⟨trustWrongIsTainted_looks, fun j t ht => by
    rw [Tryz.params10] at ht
    have hm : t ∈ [22,56] := by simpa using Array.mem_of_getElem? ht
    exact (show Tryz.prog.wantsStandIn t = false by simpa using List.all_eq_true.1 trustWrongIsTainted_noStand t hm)⟩)
  trustWrongIsTainted_goes
end Go.Proofs.YtahlodpolggeiaaGreatDoor
