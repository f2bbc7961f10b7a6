/-
  The law TrustLogsGrow hands back true for every argument, and leaves its arguments as they were; its card is tied to the program. No condition.
-/
import Derived.Test.YtahlodpolggeiaaGreatDoorZPlain
import Derived.Test.YtahlodpolggeiaaGreatDoorZUp
import Derived.Test.YtahlodpolggeiaaGreatDoorZFa
set_option linter.unusedVariables false
set_option linter.unusedSimpArgs false
namespace Go.Proofs.YtahlodpolggeiaaGreatDoor
open Go Go.Proofs.YtahlodpolggeiaaGreatDoor.Eng
theorem reach_big : reachBytes ≤ BIG := by decide
theorem law_LG' (x : List Cl × Int) (hx : InA T 6 [22,3] [.slice (.pair .str (.pair .str (.pair .str (.pair .str (.pair (.int .i64) (.pair (.slice .str) .str)))))), .int .i64] x) : law11_TrustLogsGrow.f x.1 x.2 = some true := by
 have hr : reachBytes ≤ 140737488355328 := by decide
 have h1 : List.length x.1 * 112 ≤ reachBytes := hx.1.1
 refine law_LG (by omega) (fun c hc => ?_) x.2
 have h := hx.1.2 c hc
 have g : c.2.1.size ≤ reachBytes := h.2.1
 exact Nat.le_trans g reach_big
end Go.Proofs.YtahlodpolggeiaaGreatDoor
set_option linter.unusedVariables false
set_option linter.unusedSimpArgs false
set_option maxRecDepth 100000
set_option maxHeartbeats 4000000
namespace Go.Proofs.YtahlodpolggeiaaGreatDoor
open Go Go.RowKit Go.ChangeShapes Go.WideShapes Go.ChangeAt Go.Proofs.YtahlodpolggeiaaGreatDoor.Eng
theorem trustLogsGrow_av (xs : List AV) (h : ShapeA T 6 [22,3] xs) : FPure Tryz.prog 3 xs (.v (.bool true)) :=
 law_typed (T := T) (m := 6) (ts := [22,3]) law11_TrustLogsGrow.ok (by kernel_rfl) (fun x hx => law_LG' x hx) xs h
theorem trustLogsGrow_lifted (os : Os) (started : os.Started) (H : Type) (enc : TypeId × Value → H) :
  ReturnsInHanded {} Tryz.checked os 3 .any (fun w args => (Rows.trustLogsGrowSpec.pre enc Tryz.prog Tryz.f3 Rows.trustLogsGrowRow.domain false w args ∧ laidMetH Tryz.prog Rows.trustLogsGrowRow.laid w) ∧ sizedMet enc Tryz.prog Tryz.f3 (OpenSpec.ofChange Rows.trustLogsGrowSpec) false w args)
   (Rows.trustLogsGrowSpec.post enc Tryz.prog Tryz.f3 false true false false) := by
 refine returnsInHanded_of_change_and (C := Tryz.checked) (X := fun w _ => laidMetH Tryz.prog Rows.trustLogsGrowRow.laid w) (fun _ _ _ hh h => h.of_heap hh) own started (by kernel_rfl) Tryz.func3
  (ChangeSpec.witness_shaped (enc := enc) (C := Tryz.checked) (os := os) (X := fun w _ => laidMetH Tryz.prog Rows.trustLogsGrowRow.laid w) false (World.laidAll Tryz.prog os Rows.trustLogsGrowRow.laid) #[.slice none 0 0, .int .i64 0] 8 (World.laidAll_os _ _ _)
   (World.shaped_of_ZipB (by kernel_rfl) (by kernel_rfl)) (by kernel_rfl) (by kernel_rfl) (by kernel_rfl)
   (by rw [MakeChecks.laidMetH_plain _ _ _ (by kernel_rfl)]; exact laidMet_laidAll _ (by kernel_rfl) (by kernel_rfl))) ?_
 ·intro W base args ds gs before hval0 hW hcnd hsz0 hL _
  rw [MakeChecks.laidMetH_plain _ _ _ (by kernel_rfl)] at hL
  have hlay := lays_laid (by kernel_rfl) hL
  have hW' := hW
  obtain ⟨p, q, hA0, hV, rfl, hfz, hnd⟩ := hW
  have hsz : (DataW.weightsEach Tryz.prog (Tryz.f3.params.toList ++ Rows.trustLogsGrowSpec.plain.varTypes Tryz.prog) (ds ++ gs)).all (· ≤ reachBytes) = true := hsz0
  have hA : DataW.TrodAll enc Tryz.prog W 0 (fun _ => true) true [22,3] args.toList ds p := hA0
  obtain ⟨rfl, rfl⟩ := trodVars_none hV
  have hlaw := law_calls (r := .any) (b0 := base) hlay tabOK laidOut trustLogsGrow_av (by decide +kernel) (by kernel_rfl) hA (fun j t v h1 h2 => hval0 j t v (by simpa using h1) (by simpa using h2)) (by rw [List.append_nil] at hsz; exact hsz)
  simp only [Array.toArray_toList] at hlaw
  refine hlaw.mono fun e W' ⟨he, bel, hback⟩ => ?_
  subst he
  obtain ⟨d1, d2, hds⟩ : ∃ d1 d2, ds = [d1, d2] := by
   obtain ⟨_, _, d1, _, _, _, _, rfl, _, _, h⟩ := trodAll_cons hA
   obtain ⟨_, _, d2, _, _, _, _, rfl, _, _, h⟩ := trodAll_cons h
   obtain ⟨_, rfl, _⟩ := trodAll_nil h
   exact ⟨d1, d2, rfl⟩
  subst hds
  exact ⟨_, rfl, _, _, _, [], _, [], hW', trodAll_mk1 (shut_bool Tryz.underlying4 _), hback, rfl, bel.frame _, fun h => by cases h⟩
theorem trustLogsGrow_facts : joinedFacts Tryz.prog 3 Tryz.f3 Rows.trustLogsGrowSpec Rows.trustLogsGrowRow = true := by
 unfold joinedFacts
 rw [laidOut, e_make, e_lifted, e_may]
 kernel_rfl
theorem trustLogsGrow_over : Rows.trustLogsGrowRow.holds Tryz.pinned (OpenSpec.ofChange Rows.trustLogsGrowSpec) :=
 OpenClaim.holds_of_wide 3 Tryz.f3 rfl rfl rfl rfl rfl rfl rfl ⟨rfl, rfl, rfl, rfl, rfl⟩ rfl rfl rfl rfl rfl (by kernel_rfl) Tryz.func3 trustLogsGrow_facts
  (of_decide_eq_true (by kernel_rfl)) (by unfold Func.isWrapper; first | (rw [if_pos (by decide +kernel)]; kernel_rfl) | (rw [if_neg (by decide +kernel)]; exact ⟨rfl, rfl⟩))
  (fun os started H enc _ => trustLogsGrow_lifted os started H enc)
theorem trustLogsGrow_wf : Rows.trustLogsGrowRow.wfByText (OpenSpec.ofChange Rows.trustLogsGrowSpec) = true := by kernel_rfl
theorem trustLogsGrow_main : Tryz.pinned.checked.prog.mainIs = some (true, "4c2a29d8307cedcb9c26d51ef8550f1670b9771bb971b1afa8a65e1e8616db36".toList) := e_main
theorem trustLogsGrow_looks : true = Tryz.pinned.checked.prog.looks [] := by kernel_rfl
theorem trustLogsGrow_goes : false = Rows.trustLogsGrowRow.goesBy Tryz.pinned.checked.prog := by kernel_rfl
theorem trustLogsGrow_named : Tryz.prog.funcNamed "smithyard/smithyardlaw11.TrustLogsGrow" = some 3 := by kernel_rfl
theorem trustLogsGrow_noStand : ([22,3].all fun u => !Tryz.prog.wantsStandIn u) = true := by kernel_rfl
theorem trustLogsGrow_holds : Rows.TrustLogsGrowCardSaid :=
 Claim7.holds_tied_plain_at .later [] [.data, .data, .data, .data, .pinned] true (true, "4c2a29d8307cedcb9c26d51ef8550f1670b9771bb971b1afa8a65e1e8616db36") true trustLogsGrow_over (fun _ h => by cases h) trustLogsGrow_wf (fun _ h => by cases h) trustLogsGrow_row_tie rfl ⟨rfl, rfl⟩ trustLogsGrow_main rfl
  (fun f fn hf hfn => by
   obtain rfl : f = 3 := Option.some.inj (trustLogsGrow_named.symm.trans hf) |>.symm
   obtain rfl : fn = Tryz.f3 := (Option.some.inj (Tryz.func3.symm.trans hfn)).symm
   exact ⟨trustLogsGrow_looks, fun j t ht => by
    rw [Tryz.params3] at ht
    have hm : t ∈ [22,3] := by simpa using Array.mem_of_getElem? ht
    exact (show Tryz.prog.wantsStandIn t = false by simpa using List.all_eq_true.1 trustLogsGrow_noStand t hm)⟩)
  trustLogsGrow_goes
end Go.Proofs.YtahlodpolggeiaaGreatDoor
