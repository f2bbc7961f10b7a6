/-
  Part of a proof; nothing here is trusted.
-/
import Derived.Test.YtcphmeggalaplaaDoorPlain
import Derived.Test.YtcphmeggalaplaaDoorFacts
set_option linter.unusedVariables false
set_option linter.unusedSimpArgs false
set_option maxRecDepth 100000
set_option maxHeartbeats 4000000
namespace Go.Proofs.YtcphmeggalaplaaDoor
open Go Go.RowKit Go.ChangeShapes Go.WideShapes Go.ChangeAt Go.Proofs.YtcphmeggalaplaaDoor.Eng
theorem Z3x (xs : List AV) (h : Z9c T 6 [22] xs) : FPure Tryd.prog 3 xs (.v (.bool true)) :=
 Zgv (T := T) (m := 6) (ts := [22]) Q7.ok (by kernel_rfl) (fun x hx => law_CA' x hx) xs h
theorem Z30 (os : Os) (started : os.Started) (H : Type) (enc : TypeId × Value → H) :
  ReturnsInHanded {} Tryd.checked os 3 .any (fun w args => (Rows.topCriticalIsAheadSpec.pre enc Tryd.prog Tryd.f3 Rows.topCriticalIsAheadRow.domain false w args ∧ laidMetH Tryd.prog Rows.topCriticalIsAheadRow.laid w) ∧ sizedMet enc Tryd.prog Tryd.f3 (OpenSpec.ofChange Rows.topCriticalIsAheadSpec) false w args)
   (Rows.topCriticalIsAheadSpec.post enc Tryd.prog Tryd.f3 false true false false) := by
 refine returnsInHanded_of_change_and (C := Tryd.checked) (X := fun w _ => laidMetH Tryd.prog Rows.topCriticalIsAheadRow.laid w) (fun _ _ _ hh h => h.of_heap hh) own started (by kernel_rfl) Tryd.func3
  (ChangeSpec.witness_shaped (enc := enc) (C := Tryd.checked) (os := os) (X := fun w _ => laidMetH Tryd.prog Rows.topCriticalIsAheadRow.laid w) false (World.laidAll Tryd.prog os Rows.topCriticalIsAheadRow.laid) #[.slice none 0 0] 8 (World.laidAll_os _ _ _)
   (World.shaped_of_ZipB (by kernel_rfl) (by kernel_rfl)) (by kernel_rfl) (by kernel_rfl) (by kernel_rfl)
   (by rw [MakeChecks.laidMetH_plain _ _ _ (by kernel_rfl)]; exact laidMet_laidAll _ (by kernel_rfl) (by kernel_rfl))) ?_
 ·intro W base args ds gs before hval0 hW hcnd hsz0 hL _
  rw [MakeChecks.laidMetH_plain _ _ _ (by kernel_rfl)] at hL
  have hlay : Lays (Old W) W := fun p hp => by simp [LAID] at hp
  have hW' := hW
  obtain ⟨p, q, hA0, hV, rfl, hfz, hnd⟩ := hW
  have hsz : (DataW.weightsEach Tryd.prog (Tryd.f3.params.toList ++ Rows.topCriticalIsAheadSpec.plain.varTypes Tryd.prog) (ds ++ gs)).all (· ≤ reachBytes) = true := hsz0
  have hA : DataW.TrodAll enc Tryd.prog W 0 (fun _ => true) true [22] args.toList ds p := hA0
  obtain ⟨rfl, rfl⟩ := trodVars_none hV
  have hlaw := Zgw (r := .any) (b0 := base) hlay tabOK laidOut Z3x (by decide +kernel) (by kernel_rfl) hA (fun j t v h1 h2 => hval0 j t v (by simpa using h1) (by simpa using h2)) (by rw [List.append_nil] at hsz; exact hsz)
  simp only [Array.toArray_toList] at hlaw
  refine hlaw.mono fun e W' ⟨he, bel, hback⟩ => ?_
  subst he
  obtain ⟨d1, hds⟩ : ∃ d1, ds = [d1] := by
   obtain ⟨_, _, d1, _, _, _, _, rfl, _, _, h⟩ := trodAll_cons hA
   obtain ⟨_, rfl, _⟩ := trodAll_nil h
   exact ⟨d1, rfl⟩
  subst hds
  exact ⟨_, rfl, _, _, _, [], _, [], hW', trodAll_mk1 (shut_bool Tryd.underlying4 _), hback, rfl, bel.frame _, fun h => by cases h⟩
theorem topCriticalIsAhead_facts : joinedFacts Tryd.prog 3 Tryd.f3 Rows.topCriticalIsAheadSpec Rows.topCriticalIsAheadRow = true := by
 unfold joinedFacts
 rw [laidOut, e_make, e_lifted, e_may]
 kernel_rfl
theorem topCriticalIsAhead_over : Rows.topCriticalIsAheadRow.holds Tryd.pinned (OpenSpec.ofChange Rows.topCriticalIsAheadSpec) :=
 OpenClaim.holds_of_wide 3 Tryd.f3 rfl rfl rfl rfl rfl rfl rfl ⟨rfl, rfl, rfl, rfl, rfl⟩ rfl rfl rfl rfl rfl (by kernel_rfl) Tryd.func3 topCriticalIsAhead_facts
  (of_decide_eq_true (by kernel_rfl)) (by unfold Func.isWrapper; first | (rw [if_pos (by decide +kernel)]; kernel_rfl) | (rw [if_neg (by decide +kernel)]; exact ⟨rfl, rfl⟩))
  (fun os started H enc _ => Z30 os started H enc)
theorem topCriticalIsAhead_wf : Rows.topCriticalIsAheadRow.wfByText (OpenSpec.ofChange Rows.topCriticalIsAheadSpec) = true := by kernel_rfl
theorem topCriticalIsAhead_main : Tryd.pinned.checked.prog.mainIs = some (true, "17967a725bcaa13406f660f743ce5eeb8f856a1f5dc84ffcc5b6ac479d27c03e".toList) := e_main
theorem topCriticalIsAhead_looks : false = Tryd.pinned.checked.prog.looks [] := by kernel_rfl
theorem topCriticalIsAhead_goes : false = Rows.topCriticalIsAheadRow.goesBy Tryd.pinned.checked.prog := by kernel_rfl
theorem topCriticalIsAhead_named : Tryd.prog.funcNamed "smithyard/smithyardtop.TopCriticalIsAhead" = some 3 := by kernel_rfl
theorem topCriticalIsAhead_noStand : ([22].all fun u => !Tryd.prog.wantsStandIn u) = true := by kernel_rfl
theorem topCriticalIsAhead_holds : Rows.TopCriticalIsAheadCardSaid :=
 Claim7.holds_tied_plain_at .later [] [.data, .pinned] true (true, "17967a725bcaa13406f660f743ce5eeb8f856a1f5dc84ffcc5b6ac479d27c03e") false topCriticalIsAhead_over (fun _ h => by cases h) topCriticalIsAhead_wf (fun _ h => by cases h) topCriticalIsAhead_row_tie rfl ⟨rfl, rfl⟩ topCriticalIsAhead_main rfl
  (fun f fn hf hfn => by
   obtain rfl : f = 3 := Option.some.inj (topCriticalIsAhead_named.symm.trans hf) |>.symm
   obtain rfl : fn = Tryd.f3 := (Option.some.inj (Tryd.func3.symm.trans hfn)).symm
   exact ⟨topCriticalIsAhead_looks, fun j t ht => by
    rw [Tryd.params3] at ht
    have hm : t ∈ [22] := by simpa using Array.mem_of_getElem? ht
    exact (show Tryd.prog.wantsStandIn t = false by simpa using List.all_eq_true.1 topCriticalIsAhead_noStand t hm)⟩)
  topCriticalIsAhead_goes
end Go.Proofs.YtcphmeggalaplaaDoor
