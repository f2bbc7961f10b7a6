/-
  The law GraphNeedsTurn hands back true for every argument, and leaves its arguments as they were. No condition.
-/
import Derived.Test.YtafalbofjmfbnaaDoorSteps
import Derived.Test.YtafalbofjmfbnaaDoorPlain1
import Derived.Test.YtafalbofjmfbnaaDoorFacts
import Derived.Test.YtafalbofjmfbnaaDoorTypB
import Derived.Test.YtafalbofjmfbnaaDoorRows
import Derived.Test.YtafalbofjmfbnaaDoorCards
import Derived.Test.YtafalbofjmfbnaaDoorTie
import Derived.ProofKit
import Derived.LaidMore
import Derived.Lay
import Derived.OpenShut
import Derived.SevenTiedAt
import Derived.Stop.Joined
set_option linter.unusedVariables false
set_option linter.unusedSimpArgs false
namespace Go.Proofs.YtafalbofjmfbnaaDoor
open Go Go.Proofs.YtafalbofjmfbnaaDoor.Eng
theorem contB {l : List ByteArray} (hl : l.length ≤ 1000000000) (x : ByteArray) : ∃ b : Bool, slices_Contains_string_string.f l x = some b ∧ (b = true ↔ x ∈ l) := by
 obtain ⟨r, h1, h2⟩ := contS l hl x
 refine ⟨decide (0 ≤ r), ?_, ?_⟩
 ·unfold slices_Contains_string_string.f
  rw [h1]; rfl
 ·rw [decide_eq_true_eq]
  rcases h2 with ⟨h3, h4⟩ | ⟨k, h3, h4, h5, _⟩
  ·exact ⟨fun h => by omega, fun h => absurd h h4⟩
  ·exact ⟨fun _ => h5 ▸ List.getElem_mem h4, fun _ => by omega⟩
section
variable {g : List Nd}
theorem dir_lt (h : Right g) (up : Bool) {k y : Nat} (e : Dir g up k y) : k < g.length ∧ y < g.length := by
 cases up
 ·exact h.ed_lt e
 ·exact ⟨(h.ed_lt e).2, (h.ed_lt e).1⟩
theorem dir_flip (up : Bool) : (fun x y => Dir g up y x) = Dir g (!up) := by
 funext x y
 cases up <;> rfl
theorem far_turn (h : Right g) {up : Bool} {s t : Nat} {d d' : Nat → Int} (hs : s < g.length) (ht : t < g.length) (f : Far g.length (Dir g up) (· ∈ [s]) d) (f' : Far g.length (Dir g (!up)) (· ∈ [t]) d') (h0 : 0 ≤ d t) : 0 ≤ d' s ∧ d' s ≤ d t := by
 obtain ⟨a, m, h1, h2, h3, h4⟩ := f.get ht h0
 have : a = s := List.mem_singleton.1 h2
 subst this
 have hw := h3.flip
 rw [dir_flip] at hw
 have := f'.way (fun k y e => dir_lt h _ e) ht (List.mem_singleton.2 rfl) hw
 omega
theorem one_of {a : ByteArray} {S : List Nat} (hl : S.length = ([a] : List ByteArray).length) (hm : S.map (labN g) = [a]) : ∃ s, S = [s] ∧ labN g s = a := by
 match S, hl with
 | [s], _ => exact ⟨s, rfl, by simpa using hm⟩
theorem law_NT (hs : ∀ n ∈ g, szNd n) (a b : ByteArray) (m : Int) : law4_GraphNeedsTurn.f g a b m = some true := by
 unfold law4_GraphNeedsTurn.f graph_Needs.f graph_Users.f
 rcases reached_eq hs [a] m false with ⟨f1, e1, e2⟩ | ⟨h, m1, m2, S, s1, s2, s3, s4, d, d1, d2⟩
 ·rw [e2]
  rcases reached_eq hs [b] m true with ⟨f2, e3, e4⟩ | ⟨h, m1, m2, S, s1, s2, s3, s4, d, d1, d2⟩
  ·rw [e4]
   simp only [ob_s, cb_not, cb_dec, awake4]
   simp only [if_neg e1, if_neg e3, List.length_nil]
   rfl
  ·rw [d2]
   simp only [ob_s, cb_not, cb_dec, awake4]
   simp only [if_neg e1, List.length_nil]
   rfl
 ·rw [d2]
  rcases reached_eq hs [b] m true with ⟨f2, e3, e4⟩ | ⟨h', m1', m2', S', s1', s2', s3', s4', d', d1', d2'⟩
  ·rw [e4]
   simp only [ob_s, cb_not, cb_dec, awake4]
   simp only [if_neg e3, List.length_nil]
   rfl
  ·rw [d2']
   have hgl := h.len
   have w1 := Wi_len g.length d m
   have w2 := Wi_len g.length d' m
   obtain ⟨s, rfl, hsa⟩ := one_of s1 s4
   obtain ⟨t, rfl, htb⟩ := one_of s1' s4'
   have hsl := s3 s (List.mem_singleton.2 rfl)
   have htl := s3' t (List.mem_singleton.2 rfl)
   have mem : ∀ (d : List Int) (t : Nat), t < g.length → (labN g t ∈ (Wi g.length d m).map (labN g) ↔ 0 ≤ d.getD t 0 ∧ (m < 0 ∨ d.getD t 0 ≤ m)) := fun d t ht => by
    rw [List.mem_map]
    constructor
    ·rintro ⟨q, h1, h2⟩
     have h3 := mem_Wi.1 h1
     rw [labN_inj h h3.1 ht h2] at h3
     exact h3.2
    ·exact fun hh => ⟨t, mem_Wi.2 ⟨ht, hh⟩, rfl⟩
   obtain ⟨b1, c1, c2⟩ := contB (l := (Wi g.length d m).map (labN g)) (by simp only [List.length_map]; omega) b
   obtain ⟨b2, c3, c4⟩ := contB (l := (Wi g.length d' m).map (labN g)) (by simp only [List.length_map]; omega) a
   have heq : b1 = b2 := by
    rw [Bool.eq_iff_iff, c2, c4, ← hsa, ← htb, mem d t htl, mem d' s hsl]
    constructor
    ·rintro ⟨h1, h2⟩
     have := far_turn h hsl htl d1 d1' h1
     omega
    ·rintro ⟨h1, h2⟩
     have := far_turn h htl hsl d1' d1 h1
     omega
   simp only [ob_s, decide_true, Bool.not_true, cb_f, c1, c3, heq, beq_self_eq_true, cb_t, awake4]
end
end Go.Proofs.YtafalbofjmfbnaaDoor
set_option linter.unusedVariables false
set_option linter.unusedSimpArgs false
set_option maxRecDepth 100000
set_option maxHeartbeats 4000000
namespace Go.Proofs.YtafalbofjmfbnaaDoor
open Go Go.RowKit Go.ChangeShapes Go.WideShapes Go.ChangeAt Go.Proofs.YtafalbofjmfbnaaDoor.Eng
theorem nodes_in (l : List Nd) (hx : InA T 6 [22] [.slice (.pair .str (.pair .str (.pair (.slice .str) (.pair (.slice .str) (.pair (.slice .str) (.int .i64))))))] l) : ∀ n ∈ l, szNd n := by
 have hr : reachBytes ≤ BIG := by unfold BIG; decide +kernel
 intro n hn
 have h := hx.2 n hn
 exact ⟨Nat.le_trans (show n.1.size ≤ reachBytes from h.1) hr, fun x hm => Nat.le_trans (show x.size ≤ reachBytes from h.2.2.1.2 x hm) hr, fun x hm => Nat.le_trans (show x.size ≤ reachBytes from h.2.2.2.1.2 x hm) hr, fun x hm => Nat.le_trans (show x.size ≤ reachBytes from h.2.2.2.2.1.2 x hm) hr⟩
theorem own : ownKnob Tryd.prog.godebug = none := by kernel_rfl
theorem laidOut : laidOutB Tryd.prog = true := by kernel_rfl
end Go.Proofs.YtafalbofjmfbnaaDoor
set_option linter.unusedVariables false
set_option linter.unusedSimpArgs false
set_option maxRecDepth 100000
set_option maxHeartbeats 4000000
namespace Go.Proofs.YtafalbofjmfbnaaDoor
open Go Go.RowKit Go.ChangeShapes Go.WideShapes Go.ChangeAt Go.Proofs.YtafalbofjmfbnaaDoor.Eng
theorem graphNeedsTurn_av (xs : List AV) (h : ShapeA T 6 [22,9,9,3] xs) : FPure Tryd.prog 6 xs (.v (.bool true)) :=
 law_typed (T := T) (m := 6) (ts := [22,9,9,3]) law4_GraphNeedsTurn.ok (by kernel_rfl) (fun x hx => law_NT (nodes_in x.1 hx.1) x.2.1 x.2.2.1 x.2.2.2) xs h
theorem graphNeedsTurn_lifted (os : Os) (started : os.Started) (H : Type) (enc : TypeId × Value → H) :
  ReturnsInHanded {} Tryd.checked os 6 .any (fun w args => (Rows.graphNeedsTurnSpec.pre enc Tryd.prog Tryd.f6 Rows.graphNeedsTurnRow.domain false w args ∧ laidMetH Tryd.prog Rows.graphNeedsTurnRow.laid w) ∧ sizedMet enc Tryd.prog Tryd.f6 (OpenSpec.ofChange Rows.graphNeedsTurnSpec) false w args)
   (Rows.graphNeedsTurnSpec.post enc Tryd.prog Tryd.f6 false true false false) := by
 refine returnsInHanded_of_change_and (C := Tryd.checked) (X := fun w _ => laidMetH Tryd.prog Rows.graphNeedsTurnRow.laid w) (fun _ _ _ hh h => h.of_heap hh) own started (by kernel_rfl) Tryd.func6
  (ChangeSpec.witness_shaped (enc := enc) (C := Tryd.checked) (os := os) (X := fun w _ => laidMetH Tryd.prog Rows.graphNeedsTurnRow.laid w) false (World.laidAll Tryd.prog os Rows.graphNeedsTurnRow.laid) #[.slice none 0 0, .string ByteArray.empty, .string ByteArray.empty, .int .i64 0] 8 (World.laidAll_os _ _ _)
   (World.shaped_of_ZipB (by kernel_rfl) (by kernel_rfl)) (by kernel_rfl) (by kernel_rfl) (by kernel_rfl)
   (by rw [MakeChecks.laidMetH_plain _ _ _ (by kernel_rfl)]; exact laidMet_laidAll _ (by kernel_rfl) (by kernel_rfl))) ?_
 intro W base args ds gs before hval0 hW hcnd hsz0 hL _
 have hW' := hW
 obtain ⟨p, q, hA0, hV, rfl, hfz, hnd⟩ := hW
 have hsz : (DataW.weightsEach Tryd.prog (Tryd.f6.params.toList ++ Rows.graphNeedsTurnSpec.plain.varTypes Tryd.prog) (ds ++ gs)).all (· ≤ reachBytes) = true := hsz0
 have hA : DataW.TrodAll enc Tryd.prog W 0 (fun _ => true) true [22,9,9,3] args.toList ds p := hA0
 obtain ⟨rfl, rfl⟩ := trodVars_none hV
 have hlaw := law_calls (r := .any) (b0 := base) tabOK laidOut graphNeedsTurn_av (by decide +kernel) (by kernel_rfl) hA (fun j t v h1 h2 => hval0 j t v (by simpa using h1) (by simpa using h2)) (by rw [List.append_nil] at hsz; exact hsz)
 simp only [Array.toArray_toList] at hlaw
 refine hlaw.mono fun e W' ⟨he, bel, hback⟩ => ?_
 subst he
 obtain ⟨d1, d2, d3, d4, hds⟩ : ∃ d1 d2 d3 d4, ds = [d1, d2, d3, d4] := by
  obtain ⟨_, _, d1, _, _, _, _, rfl, _, _, h⟩ := trodAll_cons hA
  obtain ⟨_, _, d2, _, _, _, _, rfl, _, _, h⟩ := trodAll_cons h
  obtain ⟨_, _, d3, _, _, _, _, rfl, _, _, h⟩ := trodAll_cons h
  obtain ⟨_, _, d4, _, _, _, _, rfl, _, _, h⟩ := trodAll_cons h
  obtain ⟨_, rfl, _⟩ := trodAll_nil h
  exact ⟨d1, d2, d3, d4, rfl⟩
 subst hds
 exact ⟨_, rfl, _, _, _, [], _, [], hW', trodAll_mk1 (shut_bool Tryd.underlying4 _), hback, rfl, bel.frame _, fun h => by cases h⟩
theorem graphNeedsTurn_facts : joinedFacts Tryd.prog 6 Tryd.f6 Rows.graphNeedsTurnSpec Rows.graphNeedsTurnRow = true := by
 unfold joinedFacts
 rw [laidOut, e_make, e_lifted, e_may]
 kernel_rfl
theorem graphNeedsTurn_over : Rows.graphNeedsTurnRow.holds Tryd.pinned (OpenSpec.ofChange Rows.graphNeedsTurnSpec) :=
 OpenClaim.holds_of_wide 6 Tryd.f6 rfl rfl rfl rfl rfl rfl rfl ⟨rfl, rfl, rfl, rfl, rfl⟩ rfl rfl rfl rfl rfl (by kernel_rfl) Tryd.func6 graphNeedsTurn_facts
  (of_decide_eq_true (by kernel_rfl)) (by unfold Func.isWrapper; first | (rw [if_pos (by decide +kernel)]; kernel_rfl) | (rw [if_neg (by decide +kernel)]; exact ⟨rfl, rfl⟩))
  (fun os started H enc _ => graphNeedsTurn_lifted os started H enc)
theorem graphNeedsTurn_wf : Rows.graphNeedsTurnRow.wfByText (OpenSpec.ofChange Rows.graphNeedsTurnSpec) = true := by kernel_rfl
theorem graphNeedsTurn_main : Tryd.pinned.checked.prog.mainIs = some (true, "1092b4553f88940e8c582512ebac33dffa2401166445bdfd8d1fed2006d5252b".toList) := e_main
theorem graphNeedsTurn_looks : false = Tryd.pinned.checked.prog.looks [] := by kernel_rfl
theorem graphNeedsTurn_goes : false = Rows.graphNeedsTurnRow.goesBy Tryd.pinned.checked.prog := by kernel_rfl
theorem graphNeedsTurn_named : Tryd.prog.funcNamed "smithyard/smithyardlaw4.GraphNeedsTurn" = some 6 := by kernel_rfl
theorem graphNeedsTurn_noStand : ([22,9,9,3].all fun u => !Tryd.prog.wantsStandIn u) = true := by kernel_rfl
theorem graphNeedsTurn_holds : Rows.GraphNeedsTurnCardSaid :=
 Claim7.holds_tied_plain_at .later [] [.data, .pinned] true (true, "1092b4553f88940e8c582512ebac33dffa2401166445bdfd8d1fed2006d5252b") false graphNeedsTurn_over (fun _ h => by cases h) graphNeedsTurn_wf (fun _ h => by cases h) graphNeedsTurn_row_tie rfl ⟨rfl, rfl⟩ graphNeedsTurn_main rfl
  (fun f fn hf hfn => by
   obtain rfl : f = 6 := Option.some.inj (graphNeedsTurn_named.symm.trans hf) |>.symm
   obtain rfl : fn = Tryd.f6 := (Option.some.inj (Tryd.func6.symm.trans hfn)).symm
   exact ⟨graphNeedsTurn_looks, fun j t ht => by
    rw [Tryd.params6] at ht
    have hm : t ∈ [22,9,9,3] := by simpa using Array.mem_of_getElem? ht
    exact (show Tryd.prog.wantsStandIn t = false by simpa using List.all_eq_true.1 graphNeedsTurn_noStand t hm)⟩)
  graphNeedsTurn_goes
end Go.Proofs.YtafalbofjmfbnaaDoor
