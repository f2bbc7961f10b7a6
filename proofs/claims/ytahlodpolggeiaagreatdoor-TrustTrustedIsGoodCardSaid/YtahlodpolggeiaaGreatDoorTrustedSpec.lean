/-
  Which result is trusted: the row and its card.
-/
import Derived.Test.YtahlodpolggeiaaGreatDoorZPlain
import Derived.Test.YtahlodpolggeiaaGreatDoorZUp
import Derived.Test.YtahlodpolggeiaaGreatDoorZFa
set_option linter.unusedVariables false
set_option linter.unusedSimpArgs false
set_option maxRecDepth 100000
set_option maxHeartbeats 4000000
namespace Go.Proofs.YtahlodpolggeiaaGreatDoor
open Go Go.RowKit Go.ChangeShapes Go.WideShapes Go.ChangeAt Go.Proofs.YtahlodpolggeiaaGreatDoor.Eng
theorem Z3g (xs : List AV) (h : ShapeA T 6 [32,22,56,9,3] xs) : FPure Tryz.prog 8 xs (.v (.bool true)) :=
 law_typed (T := T) (m := 6) (ts := [32,22,56,9,3]) Q1.ok (by kernel_rfl) (fun x hx => Zik x hx) xs h
theorem Z2n (os : Os) (started : os.Started) (H : Type) (enc : TypeId × Value → H) :
  ReturnsInHanded {} Tryz.checked os 8 .any (fun w args => (Rows.trustTrustedIsGoodSpec.pre enc Tryz.prog Tryz.f8 Rows.trustTrustedIsGoodRow.domain false w args ∧ laidMetH Tryz.prog Rows.trustTrustedIsGoodRow.laid w) ∧ sizedMet enc Tryz.prog Tryz.f8 (OpenSpec.ofChange Rows.trustTrustedIsGoodSpec) false w args)
   (Rows.trustTrustedIsGoodSpec.post enc Tryz.prog Tryz.f8 false true false false) := by
 refine returnsInHanded_of_change_and (C := Tryz.checked) (X := fun w _ => laidMetH Tryz.prog Rows.trustTrustedIsGoodRow.laid w) (fun _ _ _ hh h => h.of_heap hh) own started (by kernel_rfl) Tryz.func8
  (ChangeSpec.witness_shaped (enc := enc) (C := Tryz.checked) (os := os) (X := fun w _ => laidMetH Tryz.prog Rows.trustTrustedIsGoodRow.laid w) false (World.laidAll Tryz.prog os Rows.trustTrustedIsGoodRow.laid) #[.slice none 0 0, .slice none 0 0, .slice none 0 0, .string ByteArray.empty, .int .i64 0] 8 (World.laidAll_os _ _ _)
   (World.shaped_of_ZipB (by kernel_rfl) (by kernel_rfl)) (by kernel_rfl) (by kernel_rfl) (by kernel_rfl)
   (by rw [MakeChecks.laidMetH_plain _ _ _ (by kernel_rfl)]; exact laidMet_laidAll _ (by kernel_rfl) (by kernel_rfl))) ?_
 ·intro W base args ds gs before hval0 hW hcnd hsz0 hL _
  rw [MakeChecks.laidMetH_plain _ _ _ (by kernel_rfl)] at hL
  have hlay := Zg3 (by kernel_rfl) hL
  have hW' := hW
  obtain ⟨p, q, hA0, hV, rfl, hfz, hnd⟩ := hW
  have hsz : (DataW.weightsEach Tryz.prog (Tryz.f8.params.toList ++ Rows.trustTrustedIsGoodSpec.plain.varTypes Tryz.prog) (ds ++ gs)).all (· ≤ reachBytes) = true := hsz0
  have hA : DataW.TrodAll enc Tryz.prog W 0 (fun _ => true) true [32,22,56,9,3] args.toList ds p := hA0
  obtain ⟨rfl, rfl⟩ := trodVars_none hV
  have hlaw := law_calls (r := .any) (b0 := base) hlay tabOK laidOut Z3g (by decide +kernel) (by kernel_rfl) hA (fun j t v h1 h2 => hval0 j t v (by simpa using h1) (by simpa using h2)) (by rw [List.append_nil] at hsz; exact hsz)
  simp only [Array.toArray_toList] at hlaw
  refine hlaw.mono fun e W' ⟨he, bel, hback⟩ => ?_
  subst he
  obtain ⟨d1, d2, d3, d4, d5, hds⟩ : ∃ d1 d2 d3 d4 d5, ds = [d1, d2, d3, d4, d5] := by
   obtain ⟨_, _, d1, _, _, _, _, rfl, _, _, h⟩ := trodAll_cons hA
   obtain ⟨_, _, d2, _, _, _, _, rfl, _, _, h⟩ := trodAll_cons h
   obtain ⟨_, _, d3, _, _, _, _, rfl, _, _, h⟩ := trodAll_cons h
   obtain ⟨_, _, d4, _, _, _, _, rfl, _, _, h⟩ := trodAll_cons h
   obtain ⟨_, _, d5, _, _, _, _, rfl, _, _, h⟩ := trodAll_cons h
   obtain ⟨_, rfl, _⟩ := trodAll_nil h
   exact ⟨d1, d2, d3, d4, d5, rfl⟩
  subst hds
  exact ⟨_, rfl, _, _, _, [], _, [], hW', trodAll_mk1 (shut_bool Tryz.underlying4 _), hback, rfl, bel.frame _, fun h => by cases h⟩
theorem trustTrustedIsGood_facts : joinedFacts Tryz.prog 8 Tryz.f8 Rows.trustTrustedIsGoodSpec Rows.trustTrustedIsGoodRow = true := by
 unfold joinedFacts
 rw [laidOut, e_make, e_lifted, e_may]
 kernel_rfl
theorem trustTrustedIsGood_over : Rows.trustTrustedIsGoodRow.holds Tryz.pinned (OpenSpec.ofChange Rows.trustTrustedIsGoodSpec) :=
 OpenClaim.holds_of_wide 8 Tryz.f8 rfl rfl rfl rfl rfl rfl rfl ⟨rfl, rfl, rfl, rfl, rfl⟩ rfl rfl rfl rfl rfl (by kernel_rfl) Tryz.func8 trustTrustedIsGood_facts
  (of_decide_eq_true (by kernel_rfl)) (by unfold Func.isWrapper; first | (rw [if_pos (by decide +kernel)]; kernel_rfl) | (rw [if_neg (by decide +kernel)]; exact ⟨rfl, rfl⟩))
  (fun os started H enc _ => Z2n os started H enc)
theorem trustTrustedIsGood_wf : Rows.trustTrustedIsGoodRow.wfByText (OpenSpec.ofChange Rows.trustTrustedIsGoodSpec) = true := by kernel_rfl
theorem trustTrustedIsGood_main : Tryz.pinned.checked.prog.mainIs = some (true, "4c2a29d8307cedcb9c26d51ef8550f1670b9771bb971b1afa8a65e1e8616db36".toList) := e_main
theorem trustTrustedIsGood_looks : true = Tryz.pinned.checked.prog.looks [] := by kernel_rfl
theorem trustTrustedIsGood_goes : false = Rows.trustTrustedIsGoodRow.goesBy Tryz.pinned.checked.prog := by kernel_rfl
theorem trustTrustedIsGood_named : Tryz.prog.funcNamed "smithyard/smithyardlaw11.TrustTrustedIsGood" = some 8 := by kernel_rfl
theorem trustTrustedIsGood_noStand : ([32,22,56,9,3].all fun u => !Tryz.prog.wantsStandIn u) = true := by kernel_rfl
theorem trustTrustedIsGood_holds : Rows.TrustTrustedIsGoodCardSaid :=
 Claim7.holds_tied_plain_at .later [] [.data, .data, .data, .data, .pinned] true (true, "4c2a29d8307cedcb9c26d51ef8550f1670b9771bb971b1afa8a65e1e8616db36") true trustTrustedIsGood_over (fun _ h => by cases h) trustTrustedIsGood_wf (fun _ h => by cases h) trustTrustedIsGood_row_tie rfl ⟨rfl, rfl⟩ trustTrustedIsGood_main rfl
  (fun f fn hf hfn => by
   obtain rfl : f = 8 := Option.some.inj (trustTrustedIsGood_named.symm.trans hf) |>.symm
   obtain rfl : fn = Tryz.f8 := (Option.some.inj (Tryz.func8.symm.trans hfn)).symm
   exact ⟨trustTrustedIsGood_looks, fun j t ht => by
    rw [Tryz.params8] at ht
    have hm : t ∈ [32,22,56,9,3] := by simpa using Array.mem_of_getElem? ht
    exact (show Tryz.prog.wantsStandIn t = false by simpa using List.all_eq_true.1 trustTrustedIsGood_noStand t hm)⟩)
  trustTrustedIsGood_goes
end Go.Proofs.YtahlodpolggeiaaGreatDoor
