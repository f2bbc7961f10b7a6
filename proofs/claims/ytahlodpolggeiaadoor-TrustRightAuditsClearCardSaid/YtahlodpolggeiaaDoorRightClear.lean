/-
  Part of a proof; nothing here is trusted.
-/
import Derived.Test.YtahlodpolggeiaaDoorTrPlain
import Derived.Test.YtahlodpolggeiaaDoorTrFacts
set_option linter.unusedVariables false
set_option linter.unusedSimpArgs false
set_option maxRecDepth 100000
set_option maxHeartbeats 4000000
namespace Go.Proofs.YtahlodpolggeiaaDoor
open Go Go.RowKit Go.ChangeShapes Go.WideShapes Go.ChangeAt Go.Proofs.YtahlodpolggeiaaDoor.Eng
theorem trustRightAuditsClear_av (xs : List AV) (h : ShapeA T 6 [31,32,3] xs) : FPure Tryd.prog 4 xs (.v (.bool true)) :=
 law_typed (T := T) (m := 6) (ts := [31,32,3]) law11_TrustRightAuditsClear.ok (by kernel_rfl) (fun x hx => law_RA' x hx) xs h
theorem trustRightAuditsClear_lifted (os : Os) (started : os.Started) (H : Type) (enc : TypeId × Value → H) :
  ReturnsInHanded {} Tryd.checked os 4 .any (fun w args => (Rows.trustRightAuditsClearSpec.pre enc Tryd.prog Tryd.f4 Rows.trustRightAuditsClearRow.domain false w args ∧ laidMetH Tryd.prog Rows.trustRightAuditsClearRow.laid w) ∧ sizedMet enc Tryd.prog Tryd.f4 (OpenSpec.ofChange Rows.trustRightAuditsClearSpec) false w args)
   (Rows.trustRightAuditsClearSpec.post enc Tryd.prog Tryd.f4 false true false false) := by
 refine returnsInHanded_of_change_and (C := Tryd.checked) (X := fun w _ => laidMetH Tryd.prog Rows.trustRightAuditsClearRow.laid w) (fun _ _ _ hh h => h.of_heap hh) own started (by kernel_rfl) Tryd.func4
  (ChangeSpec.witness_shaped (enc := enc) (C := Tryd.checked) (os := os) (X := fun w _ => laidMetH Tryd.prog Rows.trustRightAuditsClearRow.laid w) false (World.laidAll Tryd.prog os Rows.trustRightAuditsClearRow.laid) #[.slice none 0 0, .slice none 0 0, .int .i64 0] 8 (World.laidAll_os _ _ _)
   (World.shaped_of_ZipB (by kernel_rfl) (by kernel_rfl)) (by kernel_rfl) (by kernel_rfl) (by kernel_rfl)
   (by rw [MakeChecks.laidMetH_plain _ _ _ (by kernel_rfl)]; exact laidMet_laidAll _ (by kernel_rfl) (by kernel_rfl))) ?_
 ·intro W base args ds gs before hval0 hW hcnd hsz0 hL _
  rw [MakeChecks.laidMetH_plain _ _ _ (by kernel_rfl)] at hL
  have hlay : Lays (Old W) W := fun p hp => by simp [LAID] at hp
  have hW' := hW
  obtain ⟨p, q, hA0, hV, rfl, hfz, hnd⟩ := hW
  have hsz : (DataW.weightsEach Tryd.prog (Tryd.f4.params.toList ++ Rows.trustRightAuditsClearSpec.plain.varTypes Tryd.prog) (ds ++ gs)).all (· ≤ reachBytes) = true := hsz0
  have hA : DataW.TrodAll enc Tryd.prog W 0 (fun _ => true) true [31,32,3] args.toList ds p := hA0
  obtain ⟨rfl, rfl⟩ := trodVars_none hV
  have hlaw := law_calls (r := .any) (b0 := base) hlay tabOK laidOut trustRightAuditsClear_av (by decide +kernel) (by kernel_rfl) hA (fun j t v h1 h2 => hval0 j t v (by simpa using h1) (by simpa using h2)) (by rw [List.append_nil] at hsz; exact hsz)
  simp only [Array.toArray_toList] at hlaw
  refine hlaw.mono fun e W' ⟨he, bel, hback⟩ => ?_
  subst he
  obtain ⟨d1, d2, d3, hds⟩ : ∃ d1 d2 d3, ds = [d1, d2, d3] := by
   obtain ⟨_, _, d1, _, _, _, _, rfl, _, _, h⟩ := trodAll_cons hA
   obtain ⟨_, _, d2, _, _, _, _, rfl, _, _, h⟩ := trodAll_cons h
   obtain ⟨_, _, d3, _, _, _, _, rfl, _, _, h⟩ := trodAll_cons h
   obtain ⟨_, rfl, _⟩ := trodAll_nil h
   exact ⟨d1, d2, d3, rfl⟩
  subst hds
  exact ⟨_, rfl, _, _, _, [], _, [], hW', trodAll_mk1 (shut_bool Tryd.underlying4 _), hback, rfl, bel.frame _, fun h => by cases h⟩
theorem trustRightAuditsClear_facts : joinedFacts Tryd.prog 4 Tryd.f4 Rows.trustRightAuditsClearSpec Rows.trustRightAuditsClearRow = true := by
 unfold joinedFacts
 rw [laidOut, e_make, e_lifted, e_may]
 kernel_rfl
theorem trustRightAuditsClear_over : Rows.trustRightAuditsClearRow.holds Tryd.pinned (OpenSpec.ofChange Rows.trustRightAuditsClearSpec) :=
 OpenClaim.holds_of_wide 4 Tryd.f4 rfl rfl rfl rfl rfl rfl rfl ⟨rfl, rfl, rfl, rfl, rfl⟩ rfl rfl rfl rfl rfl (by kernel_rfl) Tryd.func4 trustRightAuditsClear_facts
  (of_decide_eq_true (by kernel_rfl)) (by unfold Func.isWrapper; first | (rw [if_pos (by decide +kernel)]; kernel_rfl) | (rw [if_neg (by decide +kernel)]; exact ⟨rfl, rfl⟩))
  (fun os started H enc _ => trustRightAuditsClear_lifted os started H enc)
theorem trustRightAuditsClear_wf : Rows.trustRightAuditsClearRow.wfByText (OpenSpec.ofChange Rows.trustRightAuditsClearSpec) = true := by kernel_rfl
theorem trustRightAuditsClear_main : Tryd.pinned.checked.prog.mainIs = some (true, "6136380b7ba6d4922a8d3685df87326f57c2e568d7b70079681a7bb5b43e332a".toList) := e_main
theorem trustRightAuditsClear_looks : false = Tryd.pinned.checked.prog.looks [] := by kernel_rfl
theorem trustRightAuditsClear_goes : false = Rows.trustRightAuditsClearRow.goesBy Tryd.pinned.checked.prog := by kernel_rfl
theorem trustRightAuditsClear_named : Tryd.prog.funcNamed "smithyard/smithyardlaw11.TrustRightAuditsClear" = some 4 := by kernel_rfl
theorem trustRightAuditsClear_noStand : ([31,32,3].all fun u => !Tryd.prog.wantsStandIn u) = true := by kernel_rfl
theorem trustRightAuditsClear_holds : Rows.TrustRightAuditsClearCardSaid :=
 Claim7.holds_tied_plain_at .later [] [.data, .pinned] true (true, "6136380b7ba6d4922a8d3685df87326f57c2e568d7b70079681a7bb5b43e332a") false trustRightAuditsClear_over (fun _ h => by cases h) trustRightAuditsClear_wf (fun _ h => by cases h) trustRightAuditsClear_row_tie rfl ⟨rfl, rfl⟩ trustRightAuditsClear_main rfl
  (fun f fn hf hfn => by
   obtain rfl : f = 4 := Option.some.inj (trustRightAuditsClear_named.symm.trans hf) |>.symm
   obtain rfl : fn = Tryd.f4 := (Option.some.inj (Tryd.func4.symm.trans hfn)).symm
   exact ⟨trustRightAuditsClear_looks, fun j t ht => by
    rw [Tryd.params4] at ht
    have hm : t ∈ [31,32,3] := by simpa using Array.mem_of_getElem? ht
    exact (show Tryd.prog.wantsStandIn t = false by simpa using List.all_eq_true.1 trustRightAuditsClear_noStand t hm)⟩)
  trustRightAuditsClear_goes
end Go.Proofs.YtahlodpolggeiaaDoor
