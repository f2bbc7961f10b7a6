/-
  The law WireFramesMatchSpec hands back true for every argument, and leaves its arguments as they were; its card is tied to the program. No condition.
-/
import Derived.Test.YtpeiomhgaembaaaDoorPlain
import Derived.Test.YtpeiomhgaembaaaDoorTypB
import Derived.Test.YtpeiomhgaembaaaDoorRows
import Derived.Test.YtpeiomhgaembaaaDoorCards
import Derived.Test.YtpeiomhgaembaaaDoorTie
import Derived.ProofKit
import Derived.LaidMore
import Derived.Lay
import Derived.OpenShut
import Derived.SevenTiedAt
import Derived.Stop.Joined
set_option linter.unusedVariables false
set_option linter.unusedSimpArgs false
set_option maxRecDepth 100000
set_option maxHeartbeats 4000000
namespace Go.Proofs.YtpeiomhgaembaaaDoor
open Go Go.RowKit Go.ChangeShapes Go.WideShapes Go.ChangeAt Go.Proofs.YtpeiomhgaembaaaDoor.Eng
theorem msgs_in (l : List Msg) (hx : InD T 6 34 (.slice (.pair (.int .i64) (.pair .str (.pair (.int .i64) (.pair (.int .i64) (.slice .byte)))))) l) : l.length * 64 ≤ 140737488355328 ∧ ∀ m ∈ l, m.2.2.2.2.length ≤ 140737488355328 := by
 have hr : reachBytes ≤ 140737488355328 := by decide +kernel
 have h1 : List.length l * 64 ≤ reachBytes := hx.1
 refine ⟨Nat.le_trans h1 hr, fun m hm => ?_⟩
 have h2 : List.length m.2.2.2.2 * 1 ≤ reachBytes := (hx.2 m hm).2.2.2.2.1
 exact Nat.le_trans (by omega) hr
theorem law_FR' (x : List Msg) (hx : InA T 6 [34] [.slice (.pair (.int .i64) (.pair .str (.pair (.int .i64) (.pair (.int .i64) (.slice .byte)))))] x) : law8_WireFramesMatchSpec.f x = some true :=
 law_FR x (msgs_in x hx).1 (msgs_in x hx).2
theorem own : ownKnob Tryd.prog.godebug = none := by kernel_rfl
theorem laidOut : laidOutB Tryd.prog = true := by kernel_rfl
theorem wireFramesMatchSpec_av (xs : List AV) (h : ShapeA T 6 [34] xs) : FPure Tryd.prog 7 xs (.v (.bool true)) :=
 law_typed (T := T) (m := 6) (ts := [34]) law8_WireFramesMatchSpec.ok (by kernel_rfl) (fun x hx => law_FR' x hx) xs h
theorem wireFramesMatchSpec_lifted (os : Os) (started : os.Started) (H : Type) (enc : TypeId × Value → H) :
  ReturnsInHanded {} Tryd.checked os 7 .any (fun w args => (Rows.wireFramesMatchSpecSpec.pre enc Tryd.prog Tryd.f7 Rows.wireFramesMatchSpecRow.domain false w args ∧ laidMetH Tryd.prog Rows.wireFramesMatchSpecRow.laid w) ∧ sizedMet enc Tryd.prog Tryd.f7 (OpenSpec.ofChange Rows.wireFramesMatchSpecSpec) false w args)
   (Rows.wireFramesMatchSpecSpec.post enc Tryd.prog Tryd.f7 false true false false) := by
 refine returnsInHanded_of_change_and (C := Tryd.checked) (X := fun w _ => laidMetH Tryd.prog Rows.wireFramesMatchSpecRow.laid w) (fun _ _ _ hh h => h.of_heap hh) own started (by kernel_rfl) Tryd.func7
  (ChangeSpec.witness_shaped (enc := enc) (C := Tryd.checked) (os := os) (X := fun w _ => laidMetH Tryd.prog Rows.wireFramesMatchSpecRow.laid w) false (World.laidAll Tryd.prog os Rows.wireFramesMatchSpecRow.laid) #[.slice none 0 0] 8 (World.laidAll_os _ _ _)
   (World.shaped_of_ZipB (by kernel_rfl) (by kernel_rfl)) (by kernel_rfl) (by kernel_rfl) (by kernel_rfl)
   (by rw [MakeChecks.laidMetH_plain _ _ _ (by kernel_rfl)]; exact laidMet_laidAll _ (by kernel_rfl) (by kernel_rfl))) ?_
 intro W base args ds gs before hval0 hW hcnd hsz0 hL _
 have hW' := hW
 obtain ⟨p, q, hA0, hV, rfl, hfz, hnd⟩ := hW
 have hsz : (DataW.weightsEach Tryd.prog (Tryd.f7.params.toList ++ Rows.wireFramesMatchSpecSpec.plain.varTypes Tryd.prog) (ds ++ gs)).all (· ≤ reachBytes) = true := hsz0
 have hA : DataW.TrodAll enc Tryd.prog W 0 (fun _ => true) true [34] args.toList ds p := hA0
 obtain ⟨rfl, rfl⟩ := trodVars_none hV
 have hlaw := law_calls (r := .any) (b0 := base) tabOK laidOut wireFramesMatchSpec_av (by decide +kernel) (by kernel_rfl) hA (fun j t v h1 h2 => hval0 j t v (by simpa using h1) (by simpa using h2)) (by rw [List.append_nil] at hsz; exact hsz)
 simp only [Array.toArray_toList] at hlaw
 refine hlaw.mono fun e W' ⟨he, bel, hback⟩ => ?_
 subst he
 obtain ⟨d1, hds⟩ : ∃ d1, ds = [d1] := by
  obtain ⟨_, _, d1, _, _, _, _, rfl, _, _, h⟩ := trodAll_cons hA
  obtain ⟨_, rfl, _⟩ := trodAll_nil h
  exact ⟨d1, rfl⟩
 subst hds
 exact ⟨_, rfl, _, _, _, [], _, [], hW', trodAll_mk1 (shut_bool Tryd.underlying4 _), hback, rfl, bel.frame _, fun h => by cases h⟩
theorem wireFramesMatchSpec_facts : joinedFacts Tryd.prog 7 Tryd.f7 Rows.wireFramesMatchSpecSpec Rows.wireFramesMatchSpecRow = true := by kernel_rfl
theorem wireFramesMatchSpec_over : Rows.wireFramesMatchSpecRow.holds Tryd.pinned (OpenSpec.ofChange Rows.wireFramesMatchSpecSpec) :=
 OpenClaim.holds_of_wide 7 Tryd.f7 rfl rfl rfl rfl rfl rfl rfl ⟨rfl, rfl, rfl, rfl, rfl⟩ rfl rfl rfl rfl rfl (by kernel_rfl) Tryd.func7 wireFramesMatchSpec_facts
  (of_decide_eq_true (by kernel_rfl)) (by unfold Func.isWrapper; first | (rw [if_pos (by decide +kernel)]; kernel_rfl) | (rw [if_neg (by decide +kernel)]; exact ⟨rfl, rfl⟩))
  (fun os started H enc _ => wireFramesMatchSpec_lifted os started H enc)
theorem wireFramesMatchSpec_wf : Rows.wireFramesMatchSpecRow.wfByText (OpenSpec.ofChange Rows.wireFramesMatchSpecSpec) = true := by kernel_rfl
theorem wireFramesMatchSpec_main : Tryd.pinned.checked.prog.mainIs = some (true, "e39929bad2eab1783ee56fd07625803768cd0b14b7dff25f9ddf956a9ecc1117".toList) := by kernel_rfl
theorem wireFramesMatchSpec_looks : false = Tryd.pinned.checked.prog.looks [] := by kernel_rfl
theorem wireFramesMatchSpec_goes : false = Rows.wireFramesMatchSpecRow.goesBy Tryd.pinned.checked.prog := by kernel_rfl
theorem wireFramesMatchSpec_named : Tryd.prog.funcNamed "smithyard/smithyardlaw8.WireFramesMatchSpec" = some 7 := by kernel_rfl
theorem wireFramesMatchSpec_noStand : ([34].all fun u => !Tryd.prog.wantsStandIn u) = true := by kernel_rfl
theorem wireFramesMatchSpec_holds : Rows.WireFramesMatchSpecCardSaid :=
 Claim7.holds_tied_plain_at .later [] [.data, .pinned] true (true, "e39929bad2eab1783ee56fd07625803768cd0b14b7dff25f9ddf956a9ecc1117") false wireFramesMatchSpec_over (fun _ h => by cases h) wireFramesMatchSpec_wf (fun _ h => by cases h) wireFramesMatchSpec_row_tie rfl ⟨rfl, rfl⟩ wireFramesMatchSpec_main rfl
  (fun f fn hf hfn => by
   obtain rfl : f = 7 := Option.some.inj (wireFramesMatchSpec_named.symm.trans hf) |>.symm
   obtain rfl : fn = Tryd.f7 := (Option.some.inj (Tryd.func7.symm.trans hfn)).symm
   exact ⟨wireFramesMatchSpec_looks, fun j t ht => by
    rw [Tryd.params7] at ht
    have hm : t ∈ [34] := by simpa using Array.mem_of_getElem? ht
    exact (show Tryd.prog.wantsStandIn t = false by simpa using List.all_eq_true.1 wireFramesMatchSpec_noStand t hm)⟩)
  wireFramesMatchSpec_goes
end Go.Proofs.YtpeiomhgaembaaaDoor
