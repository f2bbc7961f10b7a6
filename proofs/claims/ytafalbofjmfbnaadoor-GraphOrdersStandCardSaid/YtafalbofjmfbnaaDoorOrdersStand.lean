/-
  The law GraphOrdersStand hands back true for every argument, and leaves its arguments as they were. No condition.
-/
import Derived.Test.YtafalbofjmfbnaaDoorPlain2
import Derived.Test.YtafalbofjmfbnaaDoorFacts
set_option linter.unusedVariables false
set_option linter.unusedSimpArgs false
namespace Go.Proofs.YtafalbofjmfbnaaDoor
open Go Go.Proofs.YtafalbofjmfbnaaDoor.Eng
theorem nodup_get {L : List Nat} (h : L.Nodup) {i j : Nat} (hi : i < L.length) (hj : j < L.length) (e : L[i] = L[j]) : i = j := by
 rw [List.Nodup, List.pairwise_iff_getElem] at h
 rcases Nat.lt_trichotomy i j with h1 | h1 | h1
 ·exact absurd e (h i j hi hj h1)
 ·exact h1
 ·exact absurd e.symm (h j i hj hi h1)
theorem place {g : List Nd} (h : Right g) {L : List Nat} (ho : Ord g L) (hl : L.length = g.length) {i : Nat} (hi : i < g.length) :
  ∃ k : Nat, ∃ hk : k < L.length, L[k] = i ∧ slices_Index_string_string.f (L.map (labN g)) g[i].1 = some (k : Int) := by
 have hgl := h.len
 obtain ⟨r, h1, h2⟩ := contS (L.map (labN g)) (by simp; omega) g[i].1
 obtain ⟨k, hk, he⟩ := List.getElem_of_mem (ho.all hl hi)
 rcases h2 with ⟨_, h3⟩ | ⟨q, rfl, h3, h4, _⟩
 ·exact absurd (List.mem_map.2 ⟨i, ho.all hl hi, labN_get hi⟩) h3
 ·have hq : q < L.length := by simpa using h3
  refine ⟨q, hq, ?_, h1⟩
  rw [List.getElem_map] at h4
  exact labN_inj h (ho.lt _ (List.getElem_mem hq)) hi (by rw [h4, labN_get hi])
theorem law_OS {g : List Nd} (hs : ∀ n ∈ g, szNd n) : law4_GraphOrdersStand.f g = some true := by
 unfold law4_GraphOrdersStand.f
 rcases Order_eq hs with ⟨f, h1, h2⟩ | ⟨h, L, ho, hl, h2⟩
 ·rw [h2]
  simp only [ob_s, cb_not, cb_dec]
  rw [if_neg h1]
  simp only [List.length_nil]
  rw [if_pos (by rfl), awake4, ob_s]
 ·rw [h2]
  have hgl := h.len
  simp only [ob_s, cb_not, cb_dec, if_true, List.length_map]
  rw [if_pos (by omega)]
  have inn : ∀ (i k : Nat), ∀ hi : i < g.length, ∀ hk : k < L.length, L[k] = i → ∀ (n j : Nat), g[i].2.2.1.length - j = n → j ≤ g[i].2.2.1.length → law4_GraphOrdersStand.l1 g (L.map (labN g)) (i : Int) (k : Int) (j : Int) = some (.inr ()) := by
   intro i k hi hk hki n
   have hnd := h.nd _ (List.getElem_mem hi)
   induction n with
   | zero =>
    intro j hn hj
    refine loopX_done ?_
    simp only [law4_GraphOrdersStand.s1, cb_dec, rd_lt hi]
    rw [ck_pos (by omega), if_neg (by omega)]
   | succ n ih =>
    intro j hn hj
    have hlt : j < g[i].2.2.1.length := by omega
    refine (loopX_next ?_).trans (ih (j + 1) (by omega) (by omega))
    have hm : g[i].2.2.1[j] ∈ g[i].2.2.1 := List.getElem_mem hlt
    rcases (h.at g[i].2.2.1[j]).2 with ⟨h3, _⟩ | ⟨d, h3, hd, h4⟩
    ·have := h.dep _ (List.getElem_mem hi) _ hm; omega
    ·have hed : Ed g i d := ⟨hi, (D_label h hi hd).2 (by rw [h4]; exact hm)⟩
     obtain ⟨q, hq, hqd, h5⟩ := place h ho hl hd
     have hlt2 : q < k := by
      have h6 := ho.dep k hk d (by rw [hki]; exact hed)
      obtain ⟨p, hp, he⟩ := List.getElem_of_mem h6
      have hpk : p < k := by have := hp; simp at this; omega
      rw [List.getElem_take] at he
      have := nodup_get ho.nodup (by omega : p < L.length) hq (by rw [he, hqd])
      omega
     rw [h4] at h5
     simp only [law4_GraphOrdersStand.s1, cb_dec, rd_lt hi, rd_lt hlt, h5, ob_s]
     rw [ck_pos (by omega), if_pos (by omega), ck_pos (by omega), ck_pos (by omega), if_neg (by omega), if_neg (by omega), ck_in (by omega) (by omega)]
     rfl
  have out : ∀ (n i : Nat), g.length - i = n → i ≤ g.length → law4_GraphOrdersStand.l0 g (L.map (labN g)) (i : Int) = some (.inr ()) := by
   intro n
   induction n with
   | zero =>
    intro i hn hi
    refine loopX_done ?_
    simp only [law4_GraphOrdersStand.s0, cb_dec]
    rw [if_neg (by omega)]
   | succ n ih =>
    intro i hn hi
    have hlt : i < g.length := by omega
    refine (loopX_next ?_).trans (ih (i + 1) (by omega) (by omega))
    obtain ⟨k, hk, hki, h5⟩ := place h ho hl hlt
    have h6 := inn i k hlt hk hki _ 0 rfl (Nat.zero_le _)
    rw [show ((0 : Nat) : Int) = 0 from rfl] at h6
    simp only [law4_GraphOrdersStand.s0, cb_dec, rd_lt hlt, h5, ob_s, h6, caseS_r]
    rw [if_pos (by omega), ck_pos (by omega), if_neg (by omega), ck_in (by omega) (by omega)]
    rfl
  have h7 := out g.length 0 (by omega) (by omega)
  rw [show ((0 : Nat) : Int) = 0 from rfl] at h7
  rw [h7, ob_s, caseS_r, awake4, ob_s]
end Go.Proofs.YtafalbofjmfbnaaDoor
set_option linter.unusedVariables false
set_option linter.unusedSimpArgs false
set_option maxRecDepth 100000
set_option maxHeartbeats 4000000
namespace Go.Proofs.YtafalbofjmfbnaaDoor
open Go Go.RowKit Go.ChangeShapes Go.WideShapes Go.ChangeAt Go.Proofs.YtafalbofjmfbnaaDoor.Eng
theorem graphOrdersStand_av (xs : List AV) (h : ShapeA T 6 [22] xs) : FPure Tryd.prog 3 xs (.v (.bool true)) :=
 law_typed (T := T) (m := 6) (ts := [22]) law4_GraphOrdersStand.ok (by kernel_rfl) (fun x hx => law_OS (nodes_in x hx)) xs h
theorem graphOrdersStand_lifted (os : Os) (started : os.Started) (H : Type) (enc : TypeId × Value → H) :
  ReturnsInHanded {} Tryd.checked os 3 .any (fun w args => (Rows.graphOrdersStandSpec.pre enc Tryd.prog Tryd.f3 Rows.graphOrdersStandRow.domain false w args ∧ laidMetH Tryd.prog Rows.graphOrdersStandRow.laid w) ∧ sizedMet enc Tryd.prog Tryd.f3 (OpenSpec.ofChange Rows.graphOrdersStandSpec) false w args)
   (Rows.graphOrdersStandSpec.post enc Tryd.prog Tryd.f3 false true false false) := by
 refine returnsInHanded_of_change_and (C := Tryd.checked) (X := fun w _ => laidMetH Tryd.prog Rows.graphOrdersStandRow.laid w) (fun _ _ _ hh h => h.of_heap hh) own started (by kernel_rfl) Tryd.func3
  (ChangeSpec.witness_shaped (enc := enc) (C := Tryd.checked) (os := os) (X := fun w _ => laidMetH Tryd.prog Rows.graphOrdersStandRow.laid w) false (World.laidAll Tryd.prog os Rows.graphOrdersStandRow.laid) #[.slice none 0 0] 8 (World.laidAll_os _ _ _)
   (World.shaped_of_ZipB (by kernel_rfl) (by kernel_rfl)) (by kernel_rfl) (by kernel_rfl) (by kernel_rfl)
   (by rw [MakeChecks.laidMetH_plain _ _ _ (by kernel_rfl)]; exact laidMet_laidAll _ (by kernel_rfl) (by kernel_rfl))) ?_
 intro W base args ds gs before hval0 hW hcnd hsz0 hL _
 have hW' := hW
 obtain ⟨p, q, hA0, hV, rfl, hfz, hnd⟩ := hW
 have hsz : (DataW.weightsEach Tryd.prog (Tryd.f3.params.toList ++ Rows.graphOrdersStandSpec.plain.varTypes Tryd.prog) (ds ++ gs)).all (· ≤ reachBytes) = true := hsz0
 have hA : DataW.TrodAll enc Tryd.prog W 0 (fun _ => true) true [22] args.toList ds p := hA0
 obtain ⟨rfl, rfl⟩ := trodVars_none hV
 have hlaw := law_calls (r := .any) (b0 := base) tabOK laidOut graphOrdersStand_av (by decide +kernel) (by kernel_rfl) hA (fun j t v h1 h2 => hval0 j t v (by simpa using h1) (by simpa using h2)) (by rw [List.append_nil] at hsz; exact hsz)
 simp only [Array.toArray_toList] at hlaw
 refine hlaw.mono fun e W' ⟨he, bel, hback⟩ => ?_
 subst he
 obtain ⟨d1, hds⟩ : ∃ d1, ds = [d1] := by
  obtain ⟨_, _, d1, _, _, _, _, rfl, _, _, h⟩ := trodAll_cons hA
  obtain ⟨_, rfl, _⟩ := trodAll_nil h
  exact ⟨d1, rfl⟩
 subst hds
 exact ⟨_, rfl, _, _, _, [], _, [], hW', trodAll_mk1 (shut_bool Tryd.underlying4 _), hback, rfl, bel.frame _, fun h => by cases h⟩
theorem graphOrdersStand_facts : joinedFacts Tryd.prog 3 Tryd.f3 Rows.graphOrdersStandSpec Rows.graphOrdersStandRow = true := by
 unfold joinedFacts
 rw [laidOut, e_make, e_lifted, e_may]
 kernel_rfl
theorem graphOrdersStand_over : Rows.graphOrdersStandRow.holds Tryd.pinned (OpenSpec.ofChange Rows.graphOrdersStandSpec) :=
 OpenClaim.holds_of_wide 3 Tryd.f3 rfl rfl rfl rfl rfl rfl rfl ⟨rfl, rfl, rfl, rfl, rfl⟩ rfl rfl rfl rfl rfl (by kernel_rfl) Tryd.func3 graphOrdersStand_facts
  (of_decide_eq_true (by kernel_rfl)) (by unfold Func.isWrapper; first | (rw [if_pos (by decide +kernel)]; kernel_rfl) | (rw [if_neg (by decide +kernel)]; exact ⟨rfl, rfl⟩))
  (fun os started H enc _ => graphOrdersStand_lifted os started H enc)
theorem graphOrdersStand_wf : Rows.graphOrdersStandRow.wfByText (OpenSpec.ofChange Rows.graphOrdersStandSpec) = true := by kernel_rfl
theorem graphOrdersStand_main : Tryd.pinned.checked.prog.mainIs = some (true, "1092b4553f88940e8c582512ebac33dffa2401166445bdfd8d1fed2006d5252b".toList) := e_main
theorem graphOrdersStand_looks : false = Tryd.pinned.checked.prog.looks [] := by kernel_rfl
theorem graphOrdersStand_goes : false = Rows.graphOrdersStandRow.goesBy Tryd.pinned.checked.prog := by kernel_rfl
theorem graphOrdersStand_named : Tryd.prog.funcNamed "smithyard/smithyardlaw4.GraphOrdersStand" = some 3 := by kernel_rfl
theorem graphOrdersStand_noStand : ([22].all fun u => !Tryd.prog.wantsStandIn u) = true := by kernel_rfl
theorem graphOrdersStand_holds : Rows.GraphOrdersStandCardSaid :=
 Claim7.holds_tied_plain_at .later [] [.data, .pinned] true (true, "1092b4553f88940e8c582512ebac33dffa2401166445bdfd8d1fed2006d5252b") false graphOrdersStand_over (fun _ h => by cases h) graphOrdersStand_wf (fun _ h => by cases h) graphOrdersStand_row_tie rfl ⟨rfl, rfl⟩ graphOrdersStand_main rfl
  (fun f fn hf hfn => by
   obtain rfl : f = 3 := Option.some.inj (graphOrdersStand_named.symm.trans hf) |>.symm
   obtain rfl : fn = Tryd.f3 := (Option.some.inj (Tryd.func3.symm.trans hfn)).symm
   exact ⟨graphOrdersStand_looks, fun j t ht => by
    rw [Tryd.params3] at ht
    have hm : t ∈ [22] := by simpa using Array.mem_of_getElem? ht
    exact (show Tryd.prog.wantsStandIn t = false by simpa using List.all_eq_true.1 graphOrdersStand_noStand t hm)⟩)
  graphOrdersStand_goes
end Go.Proofs.YtafalbofjmfbnaaDoor
