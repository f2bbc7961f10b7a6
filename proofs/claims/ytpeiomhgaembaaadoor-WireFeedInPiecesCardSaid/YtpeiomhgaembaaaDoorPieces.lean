/-
  The law WireFeedInPieces hands back true for every argument, and leaves its arguments as they were; its card is tied to the program. No condition.
-/
import Derived.Test.YtpeiomhgaembaaaDoorPlain
import Derived.Test.YtpeiomhgaembaaaDoorTypB
import Derived.Test.YtpeiomhgaembaaaDoorRows
import Derived.Test.YtpeiomhgaembaaaDoorCards
import Derived.Test.YtpeiomhgaembaaaDoorTie
import Derived.ProofKit
import Derived.LaidMore
import Derived.Lay
import Derived.OpenShut
import Derived.SevenTiedAt
import Derived.Stop.Joined
set_option linter.unusedVariables false
set_option linter.unusedSimpArgs false
set_option maxRecDepth 100000
set_option maxHeartbeats 4000000
namespace Go.Proofs.YtpeiomhgaembaaaDoor
open Go Go.RowKit Go.ChangeShapes Go.WideShapes Go.ChangeAt Go.Proofs.YtpeiomhgaembaaaDoor.Eng
theorem msgs_in (l : List Msg) (hx : InD T 6 34 (.slice (.pair (.int .i64) (.pair .str (.pair (.int .i64) (.pair (.int .i64) (.slice .byte)))))) l) : l.length * 64 ≤ 140737488355328 ∧ ∀ m ∈ l, m.2.2.2.2.length ≤ 140737488355328 := by
 have hr : reachBytes ≤ 140737488355328 := by decide +kernel
 have h1 : List.length l * 64 ≤ reachBytes := hx.1
 refine ⟨Nat.le_trans h1 hr, fun m hm => ?_⟩
 have h2 : List.length m.2.2.2.2 * 1 ≤ reachBytes := (hx.2 m hm).2.2.2.2.1
 exact Nat.le_trans (by omega) hr
theorem law_PI' (x : List Msg × List Int) (hx : InA T 6 [34, 54] [.slice (.pair (.int .i64) (.pair .str (.pair (.int .i64) (.pair (.int .i64) (.slice .byte))))), .slice (.int .i64)] x) : law8_WireFeedInPieces.f x.1 x.2 = some true := by
 have hr : reachBytes + 8 ≤ 140737488355328 := by decide +kernel
 have h1 : List.length x.2 * 8 ≤ reachBytes := hx.2.1
 exact law_PI x.1 x.2 (by omega) (msgs_in x.1 hx.1).2
theorem own : ownKnob Tryd.prog.godebug = none := by kernel_rfl
theorem laidOut : laidOutB Tryd.prog = true := by kernel_rfl
theorem wireFeedInPieces_av (xs : List AV) (h : ShapeA T 6 [34,54] xs) : FPure Tryd.prog 8 xs (.v (.bool true)) :=
 law_typed (T := T) (m := 6) (ts := [34,54]) law8_WireFeedInPieces.ok (by kernel_rfl) (fun x hx => law_PI' x hx) xs h
theorem wireFeedInPieces_lifted (os : Os) (started : os.Started) (H : Type) (enc : TypeId × Value → H) :
  ReturnsInHanded {} Tryd.checked os 8 .any (fun w args => (Rows.wireFeedInPiecesSpec.pre enc Tryd.prog Tryd.f8 Rows.wireFeedInPiecesRow.domain false w args ∧ laidMetH Tryd.prog Rows.wireFeedInPiecesRow.laid w) ∧ sizedMet enc Tryd.prog Tryd.f8 (OpenSpec.ofChange Rows.wireFeedInPiecesSpec) false w args)
   (Rows.wireFeedInPiecesSpec.post enc Tryd.prog Tryd.f8 false true false false) := by
 refine returnsInHanded_of_change_and (C := Tryd.checked) (X := fun w _ => laidMetH Tryd.prog Rows.wireFeedInPiecesRow.laid w) (fun _ _ _ hh h => h.of_heap hh) own started (by kernel_rfl) Tryd.func8
  (ChangeSpec.witness_shaped (enc := enc) (C := Tryd.checked) (os := os) (X := fun w _ => laidMetH Tryd.prog Rows.wireFeedInPiecesRow.laid w) false (World.laidAll Tryd.prog os Rows.wireFeedInPiecesRow.laid) #[.slice none 0 0, .slice none 0 0] 8 (World.laidAll_os _ _ _)
   (World.shaped_of_ZipB (by kernel_rfl) (by kernel_rfl)) (by kernel_rfl) (by kernel_rfl) (by kernel_rfl)
   (by rw [MakeChecks.laidMetH_plain _ _ _ (by kernel_rfl)]; exact laidMet_laidAll _ (by kernel_rfl) (by kernel_rfl))) ?_
 intro W base args ds gs before hval0 hW hcnd hsz0 hL _
 have hW' := hW
 obtain ⟨p, q, hA0, hV, rfl, hfz, hnd⟩ := hW
 have hsz : (DataW.weightsEach Tryd.prog (Tryd.f8.params.toList ++ Rows.wireFeedInPiecesSpec.plain.varTypes Tryd.prog) (ds ++ gs)).all (· ≤ reachBytes) = true := hsz0
 have hA : DataW.TrodAll enc Tryd.prog W 0 (fun _ => true) true [34,54] args.toList ds p := hA0
 obtain ⟨rfl, rfl⟩ := trodVars_none hV
 have hlaw := law_calls (r := .any) (b0 := base) tabOK laidOut wireFeedInPieces_av (by decide +kernel) (by kernel_rfl) hA (fun j t v h1 h2 => hval0 j t v (by simpa using h1) (by simpa using h2)) (by rw [List.append_nil] at hsz; exact hsz)
 simp only [Array.toArray_toList] at hlaw
 refine hlaw.mono fun e W' ⟨he, bel, hback⟩ => ?_
 subst he
 obtain ⟨d1, d2, hds⟩ : ∃ d1 d2, ds = [d1, d2] := by
  obtain ⟨_, _, d1, _, _, _, _, rfl, _, _, h⟩ := trodAll_cons hA
  obtain ⟨_, _, d2, _, _, _, _, rfl, _, _, h⟩ := trodAll_cons h
  obtain ⟨_, rfl, _⟩ := trodAll_nil h
  exact ⟨d1, d2, rfl⟩
 subst hds
 exact ⟨_, rfl, _, _, _, [], _, [], hW', trodAll_mk1 (shut_bool Tryd.underlying4 _), hback, rfl, bel.frame _, fun h => by cases h⟩
theorem wireFeedInPieces_facts : joinedFacts Tryd.prog 8 Tryd.f8 Rows.wireFeedInPiecesSpec Rows.wireFeedInPiecesRow = true := by kernel_rfl
theorem wireFeedInPieces_over : Rows.wireFeedInPiecesRow.holds Tryd.pinned (OpenSpec.ofChange Rows.wireFeedInPiecesSpec) :=
 OpenClaim.holds_of_wide 8 Tryd.f8 rfl rfl rfl rfl rfl rfl rfl ⟨rfl, rfl, rfl, rfl, rfl⟩ rfl rfl rfl rfl rfl (by kernel_rfl) Tryd.func8 wireFeedInPieces_facts
  (of_decide_eq_true (by kernel_rfl)) (by unfold Func.isWrapper; first | (rw [if_pos (by decide +kernel)]; kernel_rfl) | (rw [if_neg (by decide +kernel)]; exact ⟨rfl, rfl⟩))
  (fun os started H enc _ => wireFeedInPieces_lifted os started H enc)
theorem wireFeedInPieces_wf : Rows.wireFeedInPiecesRow.wfByText (OpenSpec.ofChange Rows.wireFeedInPiecesSpec) = true := by kernel_rfl
theorem wireFeedInPieces_main : Tryd.pinned.checked.prog.mainIs = some (true, "e39929bad2eab1783ee56fd07625803768cd0b14b7dff25f9ddf956a9ecc1117".toList) := by kernel_rfl
theorem wireFeedInPieces_looks : false = Tryd.pinned.checked.prog.looks [] := by kernel_rfl
theorem wireFeedInPieces_goes : false = Rows.wireFeedInPiecesRow.goesBy Tryd.pinned.checked.prog := by kernel_rfl
theorem wireFeedInPieces_named : Tryd.prog.funcNamed "smithyard/smithyardlaw8.WireFeedInPieces" = some 8 := by kernel_rfl
theorem wireFeedInPieces_noStand : ([34,54].all fun u => !Tryd.prog.wantsStandIn u) = true := by kernel_rfl
theorem wireFeedInPieces_holds : Rows.WireFeedInPiecesCardSaid :=
 Claim7.holds_tied_plain_at .later [] [.data, .pinned] true (true, "e39929bad2eab1783ee56fd07625803768cd0b14b7dff25f9ddf956a9ecc1117") false wireFeedInPieces_over (fun _ h => by cases h) wireFeedInPieces_wf (fun _ h => by cases h) wireFeedInPieces_row_tie rfl ⟨rfl, rfl⟩ wireFeedInPieces_main rfl
  (fun f fn hf hfn => by
   obtain rfl : f = 8 := Option.some.inj (wireFeedInPieces_named.symm.trans hf) |>.symm
   obtain rfl : fn = Tryd.f8 := (Option.some.inj (Tryd.func8.symm.trans hfn)).symm
   exact ⟨wireFeedInPieces_looks, fun j t ht => by
    rw [Tryd.params8] at ht
    have hm : t ∈ [34,54] := by simpa using Array.mem_of_getElem? ht
    exact (show Tryd.prog.wantsStandIn t = false by simpa using List.all_eq_true.1 wireFeedInPieces_noStand t hm)⟩)
  wireFeedInPieces_goes
end Go.Proofs.YtpeiomhgaembaaaDoor
