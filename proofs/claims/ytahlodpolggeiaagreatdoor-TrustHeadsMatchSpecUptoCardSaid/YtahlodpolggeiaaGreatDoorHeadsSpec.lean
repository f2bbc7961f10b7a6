/-
  The law TrustHeadsMatchSpec hands back true for every argument that its second form lets in, and leaves its arguments as they were; its card is tied to the program. No other condition.
-/
import Derived.Test.YtahlodpolggeiaaGreatDoorZUp
import Derived.Test.YtahlodpolggeiaaGreatDoorZFa
set_option linter.unusedVariables false
set_option linter.unusedSimpArgs false
set_option maxRecDepth 100000
set_option maxHeartbeats 4000000
namespace Go.Proofs.YtahlodpolggeiaaGreatDoor
open Go Go.RowKit Go.ChangeShapes Go.WideShapes Go.ChangeAt Go.Proofs.YtahlodpolggeiaaGreatDoor.Eng
abbrev trustHeadsMatchSpecUpto_spec : OpenSpec := Rows.OpenSpec.upto Rows.trustHeadsMatchSpecSpec
abbrev trustHeadsMatchSpecUpto_row : OpenClaim := Rows.trustHeadsMatchSpecUptoRow
theorem trustHeadsMatchSpecUpto_av (xs : List AV) (h : Up.ShapeA T 6 [22,9,3] xs) : FPure Tryz.prog 7 xs (.v (.bool true)) :=
 Up.law_typed (T := T) (m := 6) (ts := [22,9,3]) law11_TrustHeadsMatchSpec.ok (by kernel_rfl) (fun x hx => law_HM' x hx) xs h
theorem trustHeadsMatchSpecUpto_lifted (os : Os) (started : os.Started) (H : Type) (enc : TypeId × Value → H) (F : Stop.Interp) :
  ReturnsInHanded {} Tryz.checked os 7 .any (trustHeadsMatchSpecUpto_spec.preRow enc Tryz.prog Tryz.f7 trustHeadsMatchSpecUpto_row.domain false trustHeadsMatchSpecUpto_row.laid) ((trustHeadsMatchSpecUpto_spec.at F).post enc Tryz.prog Tryz.f7 false true false false) := by
 have hwit : (match DataW.whole enc Tryz.prog ((World.laidAll Tryz.prog os trustHeadsMatchSpecUpto_row.laid).forCall (fun _ _ => 0) ⟨#[], #[.slice none 0 0, .string ByteArray.empty, .int .i64 0], []⟩).memory Tryz.f7.params.toList trustHeadsMatchSpecUpto_spec.vars false [.slice none 0 0, .string ByteArray.empty, .int .i64 0] 8 with
   | some x => trustHeadsMatchSpecUpto_row.domain.all (PathCond.test Tryz.prog ⟨Tryz.f7.params.toList, x.1, trustHeadsMatchSpecUpto_spec.bare.plain.varTypes Tryz.prog, x.2.1⟩) && Rows.uptoSmall H (x.1 ++ x.2.1)
   | none => false) = true := by kernel_rfl
 refine returnsInHanded_of_row (C := Tryz.checked) (s := trustHeadsMatchSpecUpto_spec) own started (by kernel_rfl) Tryz.func7 ?_ ?_
 ·split at hwit
  ·rename_i x hx
   rw [Bool.and_eq_true] at hwit
   exact witness_row_at (enc := enc) (C := Tryz.checked) false (World.laidAll Tryz.prog os trustHeadsMatchSpecUpto_row.laid) #[.slice none 0 0, .string ByteArray.empty, .int .i64 0] (World.laidAll_os _ _ _) (by kernel_rfl) (by kernel_rfl) (by kernel_rfl)
    ⟨⟨(OpenSpec.pre_some (k := Rows.uptoSmall) rfl _ _ _ _).2 ⟨x.1, x.2.1, x.2.2, DataW.Whole_of_whole hx, hwit.1, hwit.2⟩, by rw [MakeChecks.laidMetH_plain _ _ _ (by kernel_rfl)]; exact laidMet_laidAll _ (by kernel_rfl) (by kernel_rfl)⟩, sizedMet_of_sizedB (fuel := 8) (by kernel_rfl)⟩
  ·cases hwit
 ·intro W base args ds gs before hval0 hW hcnd hcond hsz0 hL hsh _
  rw [MakeChecks.laidMetH_plain _ _ _ (by kernel_rfl)] at hL
  have hlay := lays_laid (by kernel_rfl) hL
  have hW' := hW
  obtain ⟨p, q, hA0, hV, rfl, hfz, hnd⟩ := hW
  have hA : DataW.TrodAll enc Tryz.prog W 0 (fun _ => true) true [22,9,3] args.toList ds p := hA0
  obtain ⟨rfl, rfl⟩ := trodVars_none hV
  have hbulk : Rows.uptoBulkAll (ds ++ []) ≤ 1048576 := of_decide_eq_true (hcond Rows.uptoSmall rfl)
  rw [List.append_nil] at hbulk
  have hsz : (DataW.weightsEach Tryz.prog [22,9,3] ds).all (· ≤ Up.upBytes) = true := by
   rw [List.all_eq_true]
   intro w hw
   have := w_each (N := 1048576) (M := 4096) (n := Tryz.prog.types.size) bytes_le clos_all (by decide) ds [22,9,3] (by
    have : ([22,9,3].all fun t => decide (t < Tryz.prog.types.size)) = true := by kernel_rfl
    exact fun t ht => of_decide_eq_true (List.all_eq_true.1 this t ht)) hbulk w hw
   exact decide_eq_true this
  have hlaw := Up.law_calls (r := .any) (b0 := base) hlay tabOK laidOut trustHeadsMatchSpecUpto_av (by decide +kernel) (by kernel_rfl) hA (fun j t v h1 h2 => hval0 j t v (by simpa using h1) (by simpa using h2)) hsz
  simp only [Array.toArray_toList] at hlaw
  refine hlaw.mono fun e W' ⟨he, bel, hback⟩ => ?_
  subst he
  obtain ⟨d1, d2, d3, hds⟩ : ∃ d1 d2 d3, ds = [d1, d2, d3] := by
   obtain ⟨_, _, d1, _, _, _, _, rfl, _, _, h⟩ := trodAll_cons hA
   obtain ⟨_, _, d2, _, _, _, _, rfl, _, _, h⟩ := trodAll_cons h
   obtain ⟨_, _, d3, _, _, _, _, rfl, _, _, h⟩ := trodAll_cons h
   obtain ⟨_, rfl, _⟩ := trodAll_nil h
   exact ⟨d1, d2, d3, rfl⟩
  subst hds
  exact ⟨_, rfl, _, _, _, [], _, [], hW', trodAll_mk1 (shut_bool Tryz.underlying4 _), hback, rfl, bel.frame _, fun h => by cases h⟩
theorem trustHeadsMatchSpecUpto_facts : joinedFacts Tryz.prog 7 Tryz.f7 trustHeadsMatchSpecUpto_spec.bare trustHeadsMatchSpecUpto_row = true := by
 unfold joinedFacts
 rw [laidOut, e_make, e_lifted, e_may]
 kernel_rfl
theorem trustHeadsMatchSpecUpto_over : trustHeadsMatchSpecUpto_row.holds Tryz.pinned trustHeadsMatchSpecUpto_spec :=
 OpenClaim.holds_of_cond 7 Tryz.f7 rfl rfl rfl rfl rfl rfl rfl ⟨rfl, rfl, rfl, rfl, rfl⟩ rfl rfl rfl rfl rfl (by kernel_rfl) Tryz.func7 trustHeadsMatchSpecUpto_facts
  (of_decide_eq_true (by kernel_rfl)) (by unfold Func.isWrapper; first | (rw [if_pos (by decide +kernel)]; kernel_rfl) | (rw [if_neg (by decide +kernel)]; exact ⟨rfl, rfl⟩))
  (fun os started H enc _ F => by
   rw [OpenClaim.pre_eq_preRow]
   exact trustHeadsMatchSpecUpto_lifted os started H enc F)
theorem trustHeadsMatchSpecUpto_wf : trustHeadsMatchSpecUpto_row.wfByText trustHeadsMatchSpecUpto_spec = true := by kernel_rfl
theorem trustHeadsMatchSpecUpto_main : Tryz.pinned.checked.prog.mainIs = some (true, "4c2a29d8307cedcb9c26d51ef8550f1670b9771bb971b1afa8a65e1e8616db36".toList) := e_main
theorem trustHeadsMatchSpecUpto_looks : true = Tryz.pinned.checked.prog.looks [] := by kernel_rfl
theorem trustHeadsMatchSpecUpto_goes : false = trustHeadsMatchSpecUpto_row.goesBy Tryz.pinned.checked.prog := by kernel_rfl
theorem trustHeadsMatchSpecUpto_named : Tryz.prog.funcNamed "smithyard/smithyardlaw11.TrustHeadsMatchSpec" = some 7 := by kernel_rfl
theorem trustHeadsMatchSpecUpto_noStand : ([22,9,3].all fun u => !Tryz.prog.wantsStandIn u) = true := by kernel_rfl
theorem trustHeadsMatchSpecUpto_holds : Rows.TrustHeadsMatchSpecUptoCardSaid :=
 Claim7.holds_tied_plain_at .later [] [.data, .data, .data, .data, .pinned] true (true, "4c2a29d8307cedcb9c26d51ef8550f1670b9771bb971b1afa8a65e1e8616db36") true trustHeadsMatchSpecUpto_over (fun _ h => by cases h) trustHeadsMatchSpecUpto_wf (fun _ h => by cases h) trustHeadsMatchSpecUpto_row_tie rfl ⟨rfl, rfl⟩ trustHeadsMatchSpecUpto_main rfl
  (fun f fn hf hfn => by
   obtain rfl : f = 7 := Option.some.inj (trustHeadsMatchSpecUpto_named.symm.trans hf) |>.symm
   obtain rfl : fn = Tryz.f7 := (Option.some.inj (Tryz.func7.symm.trans hfn)).symm
   exact ⟨trustHeadsMatchSpecUpto_looks, fun j t ht => by
    rw [Tryz.params7] at ht
    have hm : t ∈ [22,9,3] := by simpa using Array.mem_of_getElem? ht
    exact (show Tryz.prog.wantsStandIn t = false by simpa using List.all_eq_true.1 trustHeadsMatchSpecUpto_noStand t hm)⟩)
  trustHeadsMatchSpecUpto_goes
end Go.Proofs.YtahlodpolggeiaaGreatDoor
