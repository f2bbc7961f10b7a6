/-
  Part of a proof; nothing here is trusted.
-/
import Derived.Test.YtahlodpolggeiaaGreatDoorZPlain
import Derived.Test.YtahlodpolggeiaaGreatDoorZUp
import Derived.Test.YtahlodpolggeiaaGreatDoorZFa
set_option linter.unusedVariables false
set_option linter.unusedSimpArgs false
set_option maxRecDepth 100000
set_option maxHeartbeats 4000000
namespace Go.Proofs.YtahlodpolggeiaaGreatDoor
open Go Go.RowKit Go.ChangeShapes Go.WideShapes Go.ChangeAt Go.Proofs.YtahlodpolggeiaaGreatDoor.Eng
abbrev trustTaintedMatchesSpecUpto_spec : OpenSpec := Rows.OpenSpec.upto Rows.trustTaintedMatchesSpecSpec
abbrev trustTaintedMatchesSpecUpto_row : OpenClaim := Rows.trustTaintedMatchesSpecUptoRow
theorem Z1x (xs : List AV) (h : Up.ShapeA T 6 [22,56] xs) : FPure Tryz.prog 11 xs (.v (.bool true)) :=
 Up.law_typed (T := T) (m := 6) (ts := [22,56]) Qu.ok (by kernel_rfl) (fun x hx => law_TT' x hx) xs h
theorem Z1n (os : Os) (started : os.Started) (H : Type) (enc : TypeId × Value → H) (F : Stop.Interp) :
  ReturnsInHanded {} Tryz.checked os 11 .any (trustTaintedMatchesSpecUpto_spec.preRow enc Tryz.prog Tryz.f11 trustTaintedMatchesSpecUpto_row.domain false trustTaintedMatchesSpecUpto_row.laid) ((trustTaintedMatchesSpecUpto_spec.at F).post enc Tryz.prog Tryz.f11 false true false false) := by
 have hwit : (match DataW.whole enc Tryz.prog ((World.laidAll Tryz.prog os trustTaintedMatchesSpecUpto_row.laid).forCall (fun _ _ => 0) ⟨#[], #[.slice none 0 0, .slice none 0 0], []⟩).memory Tryz.f11.params.toList trustTaintedMatchesSpecUpto_spec.vars false [.slice none 0 0, .slice none 0 0] 8 with
   | some x => trustTaintedMatchesSpecUpto_row.domain.all (PathCond.test Tryz.prog ⟨Tryz.f11.params.toList, x.1, trustTaintedMatchesSpecUpto_spec.bare.plain.varTypes Tryz.prog, x.2.1⟩) && Rows.uptoSmall H (x.1 ++ x.2.1)
   | none => false) = true := by kernel_rfl
 refine returnsInHanded_of_row (C := Tryz.checked) (s := trustTaintedMatchesSpecUpto_spec) own started (by kernel_rfl) Tryz.func11 ?_ ?_
 ·split at hwit
  ·rename_i x hx
   rw [Bool.and_eq_true] at hwit
   exact witness_row_at (enc := enc) (C := Tryz.checked) false (World.laidAll Tryz.prog os trustTaintedMatchesSpecUpto_row.laid) #[.slice none 0 0, .slice none 0 0] (World.laidAll_os _ _ _) (by kernel_rfl) (by kernel_rfl) (by kernel_rfl)
    ⟨⟨(OpenSpec.pre_some (k := Rows.uptoSmall) rfl _ _ _ _).2 ⟨x.1, x.2.1, x.2.2, DataW.Whole_of_whole hx, hwit.1, hwit.2⟩, by rw [MakeChecks.laidMetH_plain _ _ _ (by kernel_rfl)]; exact laidMet_laidAll _ (by kernel_rfl) (by kernel_rfl)⟩, sizedMet_of_sizedB (fuel := 8) (by kernel_rfl)⟩
  ·cases hwit
 ·intro W base args ds gs before hval0 hW hcnd hcond hsz0 hL hsh _
  rw [MakeChecks.laidMetH_plain _ _ _ (by kernel_rfl)] at hL
  have hlay : Lays (Old W) W := fun p hp => by simp [LAID] at hp
  have hW' := hW
  obtain ⟨p, q, hA0, hV, rfl, hfz, hnd⟩ := hW
  have hA : DataW.TrodAll enc Tryz.prog W 0 (fun _ => true) true [22,56] args.toList ds p := hA0
  obtain ⟨rfl, rfl⟩ := trodVars_none hV
  have hbulk : Rows.uptoBulkAll (ds ++ []) ≤ 1048576 := of_decide_eq_true (hcond Rows.uptoSmall rfl)
  rw [List.append_nil] at hbulk
  have hsz : (DataW.weightsEach Tryz.prog [22,56] ds).all (· ≤ Up.upBytes) = true := by
   rw [List.all_eq_true]
   intro w hw
   have := Zex (N := 1048576) (M := 4096) (n := Tryz.prog.types.size) Zim Zii (by decide) ds [22,56] (by
    have : ([22,56].all fun t => decide (t < Tryz.prog.types.size)) = true := by kernel_rfl
    exact fun t ht => of_decide_eq_true (List.all_eq_true.1 this t ht)) hbulk w hw
   exact decide_eq_true this
  have hlaw := Up.law_calls (r := .any) (b0 := base) hlay tabOK laidOut Z1x (by decide +kernel) (by kernel_rfl) hA (fun j t v h1 h2 => hval0 j t v (by simpa using h1) (by simpa using h2)) hsz
  simp only [Array.toArray_toList] at hlaw
  refine hlaw.mono fun e W' ⟨he, bel, hback⟩ => ?_
  subst he
  obtain ⟨d1, d2, hds⟩ : ∃ d1 d2, ds = [d1, d2] := by
   obtain ⟨_, _, d1, _, _, _, _, rfl, _, _, h⟩ := trodAll_cons hA
   obtain ⟨_, _, d2, _, _, _, _, rfl, _, _, h⟩ := trodAll_cons h
   obtain ⟨_, rfl, _⟩ := trodAll_nil h
   exact ⟨d1, d2, rfl⟩
  subst hds
  exact ⟨_, rfl, _, _, _, [], _, [], hW', trodAll_mk1 (shut_bool Tryz.underlying4 _), hback, rfl, bel.frame _, fun h => by cases h⟩
theorem trustTaintedMatchesSpecUpto_facts : joinedFacts Tryz.prog 11 Tryz.f11 trustTaintedMatchesSpecUpto_spec.bare trustTaintedMatchesSpecUpto_row = true := by
 unfold joinedFacts
 rw [laidOut, e_make, e_lifted, e_may]
 kernel_rfl
theorem trustTaintedMatchesSpecUpto_over : trustTaintedMatchesSpecUpto_row.holds Tryz.pinned trustTaintedMatchesSpecUpto_spec :=
 OpenClaim.holds_of_cond 11 Tryz.f11 rfl rfl rfl rfl rfl rfl rfl ⟨rfl, rfl, rfl, rfl, rfl⟩ rfl rfl rfl rfl rfl (by kernel_rfl) Tryz.func11 trustTaintedMatchesSpecUpto_facts
  (of_decide_eq_true (by kernel_rfl)) (by unfold Func.isWrapper; first | (rw [if_pos (by decide +kernel)]; kernel_rfl) | (rw [if_neg (by decide +kernel)]; exact ⟨rfl, rfl⟩))
  (fun os started H enc _ F => by
   rw [OpenClaim.pre_eq_preRow]
   exact Z1n os started H enc F)
theorem trustTaintedMatchesSpecUpto_wf : trustTaintedMatchesSpecUpto_row.wfByText trustTaintedMatchesSpecUpto_spec = true := by kernel_rfl
theorem trustTaintedMatchesSpecUpto_main : Tryz.pinned.checked.prog.mainIs = some (true, "4c2a29d8307cedcb9c26d51ef8550f1670b9771bb971b1afa8a65e1e8616db36".toList) := e_main
theorem trustTaintedMatchesSpecUpto_looks : true = Tryz.pinned.checked.prog.looks [] := by kernel_rfl
theorem trustTaintedMatchesSpecUpto_goes : false = trustTaintedMatchesSpecUpto_row.goesBy Tryz.pinned.checked.prog := by kernel_rfl
theorem trustTaintedMatchesSpecUpto_named : Tryz.prog.funcNamed "smithyard/smithyardlaw11.TrustTaintedMatchesSpec" = some 11 := by kernel_rfl
theorem trustTaintedMatchesSpecUpto_noStand : ([22,56].all fun u => !Tryz.prog.wantsStandIn u) = true := by kernel_rfl
theorem trustTaintedMatchesSpecUpto_holds : Rows.TrustTaintedMatchesSpecUptoCardSaid :=
 Claim7.holds_tied_plain_at .later [] [.data, .pinned] true (true, "4c2a29d8307cedcb9c26d51ef8550f1670b9771bb971b1afa8a65e1e8616db36") true trustTaintedMatchesSpecUpto_over (fun _ h => by cases h) trustTaintedMatchesSpecUpto_wf (fun _ h => by cases h) trustTaintedMatchesSpecUpto_row_tie rfl ⟨rfl, rfl⟩ trustTaintedMatchesSpecUpto_main rfl
  (fun f fn hf hfn => by
   obtain rfl : f = 11 := Option.some.inj (trustTaintedMatchesSpecUpto_named.symm.trans hf) |>.symm
   obtain rfl : fn = Tryz.f11 := (Option.some.inj (Tryz.func11.symm.trans hfn)).symm
   exact ⟨trustTaintedMatchesSpecUpto_looks, fun j t ht => by
    rw [Tryz.params11] at ht
    have hm : t ∈ [22,56] := by simpa using Array.mem_of_getElem? ht
    exact (show Tryz.prog.wantsStandIn t = false by simpa using List.all_eq_true.1 trustTaintedMatchesSpecUpto_noStand t hm)⟩)
  trustTaintedMatchesSpecUpto_goes
end Go.Proofs.YtahlodpolggeiaaGreatDoor
