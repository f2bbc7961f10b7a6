/-
  Which result is trusted: the row and its card.
-/
import Derived.Test.YtplgphblmeceoaaGreatDoorZPlain
import Derived.Test.YtplgphblmeceoaaGreatDoorZUp
import Derived.Test.YtplgphblmeceoaaGreatDoorZFa
set_option linter.unusedVariables false
set_option linter.unusedSimpArgs false
set_option maxRecDepth 100000
set_option maxHeartbeats 4000000
namespace Go.Proofs.YtplgphblmeceoaaGreatDoor
open Go Go.RowKit Go.ChangeShapes Go.WideShapes Go.ChangeAt Go.Proofs.YtplgphblmeceoaaGreatDoor.Eng
abbrev trustTrustedMatchesSpecUpto_spec : OpenSpec := Rows.OpenSpec.upto Rows.trustTrustedMatchesSpecSpec
abbrev trustTrustedMatchesSpecUpto_row : OpenClaim := Rows.trustTrustedMatchesSpecUptoRow
theorem Z1z (xs : List AV) (h : Up.ShapeAU T 6 [22,23,24,9,3] xs) : FPure Tryz.prog 3 xs (.v (.bool true)) :=
 Up.law_typedU (T := T) (m := 6) (ts := [22,23,24,9,3]) Q14.ok (by kernel_rfl) (fun x hx => Zj6 x hx) xs h
theorem Z1m (os : Os) (started : os.Started) (H : Type) (enc : TypeId × Value → H) (F : Stop.Interp) :
  ReturnsInHanded {} Tryz.checked os 3 .any (trustTrustedMatchesSpecUpto_spec.preRow enc Tryz.prog Tryz.f3 trustTrustedMatchesSpecUpto_row.domain false trustTrustedMatchesSpecUpto_row.laid) ((trustTrustedMatchesSpecUpto_spec.at F).post enc Tryz.prog Tryz.f3 false true false false) := by
 have hwit : (match DataW.whole enc Tryz.prog ((World.laidAll Tryz.prog os trustTrustedMatchesSpecUpto_row.laid).forCall (fun _ _ => 0) ⟨#[], #[.slice none 0 0, .slice none 0 0, .slice none 0 0, .string ByteArray.empty, .int .i64 0], []⟩).memory Tryz.f3.params.toList trustTrustedMatchesSpecUpto_spec.vars false [.slice none 0 0, .slice none 0 0, .slice none 0 0, .string ByteArray.empty, .int .i64 0] 8 with
   | some x => trustTrustedMatchesSpecUpto_row.domain.all (PathCond.test Tryz.prog ⟨Tryz.f3.params.toList, x.1, trustTrustedMatchesSpecUpto_spec.bare.plain.varTypes Tryz.prog, x.2.1⟩) && Rows.uptoSmall H (x.1 ++ x.2.1)
   | none => false) = true := by kernel_rfl
 refine returnsInHanded_of_row (C := Tryz.checked) (s := trustTrustedMatchesSpecUpto_spec) own started (by kernel_rfl) Tryz.func3 ?_ ?_
 ·split at hwit
  ·rename_i x hx
   rw [Bool.and_eq_true] at hwit
   exact witness_row_at (enc := enc) (C := Tryz.checked) false (World.laidAll Tryz.prog os trustTrustedMatchesSpecUpto_row.laid) #[.slice none 0 0, .slice none 0 0, .slice none 0 0, .string ByteArray.empty, .int .i64 0] (World.laidAll_os _ _ _) (by kernel_rfl) (by kernel_rfl) (by kernel_rfl)
    ⟨⟨(OpenSpec.pre_some (k := Rows.uptoSmall) rfl _ _ _ _).2 ⟨x.1, x.2.1, x.2.2, DataW.Whole_of_whole hx, hwit.1, hwit.2⟩, by rw [MakeChecks.laidMetH_plain _ _ _ (by kernel_rfl)]; exact laidMet_laidAll _ (by kernel_rfl) (by kernel_rfl)⟩, sizedMet_of_sizedB (fuel := 8) (by kernel_rfl)⟩
  ·cases hwit
 ·intro W base args ds gs before hval0 hW hcnd hcond hsz0 hL hsh _
  rw [MakeChecks.laidMetH_plain _ _ _ (by kernel_rfl)] at hL
  have hlay := Zgs (by kernel_rfl) hL
  have hW' := hW
  obtain ⟨p, q, hA0, hV, rfl, hfz, hnd⟩ := hW
  have hA : DataW.TrodAll enc Tryz.prog W 0 (fun _ => true) true [22,23,24,9,3] args.toList ds p := hA0
  obtain ⟨rfl, rfl⟩ := trodVars_none hV
  have hbulk : Rows.uptoBulkAll (ds ++ []) ≤ 1048576 := of_decide_eq_true (hcond Rows.uptoSmall rfl)
  rw [List.append_nil] at hbulk
  have hsz : (DataW.weightsEach Tryz.prog [22,23,24,9,3] ds).all (· ≤ Up.upBytes) = true := by
   rw [List.all_eq_true]
   intro w hw
   have := Zfk (N := 1048576) (M := 4096) (n := Tryz.prog.types.size) Zjv Zjq (by decide) ds [22,23,24,9,3] (by
    have : ([22,23,24,9,3].all fun t => decide (t < Tryz.prog.types.size)) = true := by kernel_rfl
    exact fun t ht => of_decide_eq_true (List.all_eq_true.1 this t ht)) hbulk w hw
   exact decide_eq_true this
  have hlaw := Up.law_callsU (r := .any) (b0 := base) hlay tabOK laidOut Z1z (by decide +kernel) (by kernel_rfl) hA (fun j t v h1 h2 => hval0 j t v (by simpa using h1) (by simpa using h2)) hsz
  simp only [Array.toArray_toList] at hlaw
  refine hlaw.mono fun e W' ⟨he, bel, hback⟩ => ?_
  subst he
  obtain ⟨d1, d2, d3, d4, d5, hds⟩ : ∃ d1 d2 d3 d4 d5, ds = [d1, d2, d3, d4, d5] := by
   obtain ⟨_, _, d1, _, _, _, _, rfl, _, _, h⟩ := trodAll_cons hA
   obtain ⟨_, _, d2, _, _, _, _, rfl, _, _, h⟩ := trodAll_cons h
   obtain ⟨_, _, d3, _, _, _, _, rfl, _, _, h⟩ := trodAll_cons h
   obtain ⟨_, _, d4, _, _, _, _, rfl, _, _, h⟩ := trodAll_cons h
   obtain ⟨_, _, d5, _, _, _, _, rfl, _, _, h⟩ := trodAll_cons h
   obtain ⟨_, rfl, _⟩ := trodAll_nil h
   exact ⟨d1, d2, d3, d4, d5, rfl⟩
  subst hds
  exact ⟨_, rfl, _, _, _, [], _, [], hW', trodAll_mk1 (shut_bool Tryz.underlying4 _), hback, rfl, bel.frame _, fun h => by cases h⟩
theorem trustTrustedMatchesSpecUpto_facts : joinedFacts Tryz.prog 3 Tryz.f3 trustTrustedMatchesSpecUpto_spec.bare trustTrustedMatchesSpecUpto_row = true := by
 unfold joinedFacts
 rw [laidOut, e_make, e_lifted, e_may]
 kernel_rfl
theorem trustTrustedMatchesSpecUpto_over : trustTrustedMatchesSpecUpto_row.holds Tryz.pinned trustTrustedMatchesSpecUpto_spec :=
 OpenClaim.holds_of_cond 3 Tryz.f3 rfl rfl rfl rfl rfl rfl rfl ⟨rfl, rfl, rfl, rfl, rfl⟩ rfl rfl rfl rfl rfl (by kernel_rfl) Tryz.func3 trustTrustedMatchesSpecUpto_facts
  (of_decide_eq_true (by kernel_rfl)) (by unfold Func.isWrapper; first | (rw [if_pos (by decide +kernel)]; kernel_rfl) | (rw [if_neg (by decide +kernel)]; exact ⟨rfl, rfl⟩))
  (fun os started H enc _ F => by
   rw [OpenClaim.pre_eq_preRow]
   exact Z1m os started H enc F)
theorem trustTrustedMatchesSpecUpto_wf : trustTrustedMatchesSpecUpto_row.wfByText trustTrustedMatchesSpecUpto_spec = true := by kernel_rfl
theorem trustTrustedMatchesSpecUpto_main : Tryz.pinned.checked.prog.mainIs = some (true, "c37215bea8a1aaa7770cce6b32acf12658eab284e651d3c8c2f80b9a962246fb".toList) := e_main
theorem trustTrustedMatchesSpecUpto_looks : false = Tryz.pinned.checked.prog.looks [] := by kernel_rfl
theorem trustTrustedMatchesSpecUpto_goes : false = trustTrustedMatchesSpecUpto_row.goesBy Tryz.pinned.checked.prog := by kernel_rfl
theorem trustTrustedMatchesSpecUpto_named : Tryz.prog.funcNamed "smithyard/smithyardlaw11.TrustTrustedMatchesSpec" = some 3 := by kernel_rfl
theorem trustTrustedMatchesSpecUpto_noStand : ([22,23,24,9,3].all fun u => !Tryz.prog.wantsStandIn u) = true := by kernel_rfl
theorem trustTrustedMatchesSpecUpto_holds : Rows.TrustTrustedMatchesSpecUptoCardSaid :=
 Claim7.holds_tied_plain_at .later [] [.data, .data, .data, .data, .pinned] true (true, "c37215bea8a1aaa7770cce6b32acf12658eab284e651d3c8c2f80b9a962246fb") false trustTrustedMatchesSpecUpto_over (fun _ h => by cases h) trustTrustedMatchesSpecUpto_wf (fun _ h => by cases h) trustTrustedMatchesSpecUpto_row_tie rfl ⟨rfl, rfl⟩ trustTrustedMatchesSpecUpto_main rfl
  (fun f fn hf hfn => by
   obtain rfl : f = 3 := Option.some.inj (trustTrustedMatchesSpecUpto_named.symm.trans hf) |>.symm
   obtain rfl : fn = Tryz.f3 := (Option.some.inj (Tryz.func3.symm.trans hfn)).symm
   exact ⟨trustTrustedMatchesSpecUpto_looks, fun j t ht => by
    rw [Tryz.params3] at ht
    have hm : t ∈ [22,23,24,9,3] := by simpa using Array.mem_of_getElem? ht
    exact (show Tryz.prog.wantsStandIn t = false by simpa using List.all_eq_true.1 trustTrustedMatchesSpecUpto_noStand t hm)⟩)
  trustTrustedMatchesSpecUpto_goes
end Go.Proofs.YtplgphblmeceoaaGreatDoor
