/-
  The law GraphLoopsAreLoops hands back true for every argument, and leaves its arguments as they were. No condition.
-/
import Derived.Test.YtafalbofjmfbnaaDoorWays
import Derived.Test.YtafalbofjmfbnaaDoorPlain1
import Derived.Test.YtafalbofjmfbnaaDoorFacts
import Derived.Test.YtafalbofjmfbnaaDoorTypB
import Derived.Test.YtafalbofjmfbnaaDoorRows
import Derived.Test.YtafalbofjmfbnaaDoorCards
import Derived.Test.YtafalbofjmfbnaaDoorTie
import Derived.ProofKit
import Derived.LaidMore
import Derived.Lay
import Derived.OpenShut
import Derived.SevenTiedAt
import Derived.Stop.Joined
set_option linter.unusedVariables false
set_option linter.unusedSimpArgs false
namespace Go.Proofs.YtafalbofjmfbnaaDoor
open Go Go.Proofs.YtafalbofjmfbnaaDoor.Eng
section
variable {g : List Nd}
theorem Loop_eq (hs : ∀ n ∈ g, szNd n) : (∃ f : Int, f ≠ 0 ∧ graph_Loop.f g = some ([], (false, f)) ∧ graph_Order.f g = some ([], f)) ∨
  (Right g ∧ ((∃ L, Ring g L ∧ graph_Loop.f g = some (L.map (labN g), (true, 0)) ∧ graph_Order.f g = some ([], 17)) ∨ (graph_Loop.f g = some ([], (false, 0)) ∧ ∃ L, graph_Order.f g = some (L, 0)))) := by
 unfold graph_Loop.f graph_Order.f graph_tree.f
 rcases open_eq hs with ⟨f, h1, h2⟩ | ⟨h, h2⟩
 ·rw [h2]
  simp only [ob_s, cb_not, cb_dec]
  simp only [if_neg h1, ob_s]
  exact .inl ⟨f, h1, rfl, by simp only [if_neg h1]⟩
 ·rw [h2]
  have hgl := h.len
  simp only [ob_s, cb_not, cb_dec, if_true]
  refine .inr ⟨h, ?_⟩
  have hn := loopNet h g.length 0 (by omega) (by omega)
  rw [show ((0 : Nat) : Int) = 0 from rfl] at hn
  have hloop : ∀ r, graph_net_loop.l0 (net g) (g.length : Int) 0 = some r → graph_net_loop.f (net g) = caseS r (fun a22 => (some a22)) (fun b23 => (some ([] : List Int))) := fun r hr => by
   unfold graph_net_loop.f
   simp only [Option.isSome_some, Option.getD_some, ck_tr, hr, ob_s]
  rcases hn with ⟨L, l1, l2⟩ | ⟨l1, l2⟩
  ·left
   have hll := nodup_len (n := g.length) (L := L) (by
    rw [List.Nodup, List.pairwise_iff_getElem]
    exact fun i j hi hj hij => l1.nodup i j hj hij) l1.lt
   refine ⟨L, l1, ?_, ?_⟩
   ·rw [hloop _ l2, caseS_l, ob_s, labels_eq g _ _ (by omega) hgl l1.lt, ob_s]
    have := l1.ne
    rw [List.length_map, decide_eq_true (by omega)]
   ·rcases order_eq h with ⟨R, r1, r2, r3⟩ | ⟨O, r1, r2, r3⟩
    ·rw [r3]; rfl
    ·exfalso
     have hne := l1.ne
     have hway : ∀ (i : Nat) (hi : i < L.length), Go.Proofs.YtafalbofjmfbnaaDoor.Eng.Way (Ed g) L[0] L[i] i := fun i => by
      induction i with
      | zero => exact fun hi => .nil _
      | succ i ih =>
       intro hi
       have := l1.ed i (by omega)
       rw [dif_pos hi] at this
       exact .snoc (ih (by omega)) this
     have h1 := hway (L.length - 1) (by omega)
     have h2 := l1.ed (L.length - 1) (by omega)
     rw [dif_neg (by omega)] at h2
     exact r1.noloop h r2 L[0] _ (l1.lt _ (List.getElem_mem hne)) (.snoc h1 h2)
  ·right
   refine ⟨?_, ?_⟩
   ·rw [hloop _ l1, caseS_r, ob_s]
    have := labels_eq g (depsA g) (usersA g) (L := []) (by simp) hgl (fun x hx => by cases hx)
    have this' : graph_net_labels.f (some (g, (depsA g, usersA g))) [] = some [] := this
    rw [this', ob_s]
    rfl
   ·rcases order_eq h with ⟨R, r1, r2, r3⟩ | ⟨O, r1, r2, r3⟩
    ·exfalso
     obtain ⟨x, m, hx, hw⟩ := loop_of R r1 r2
     obtain ⟨k, he, hw'⟩ := hw.head
     exact l2 x (Nat.zero_le _) he.1 k m he hw'
    ·rw [r3]
     simp only [ob_s, cb_t, if_true]
     rw [labels_eq g _ _ (by omega) hgl r1.lt, ob_s]
     exact ⟨_, rfl⟩
theorem law_LL (hs : ∀ n ∈ g, szNd n) : law4_GraphLoopsAreLoops.f g = some true := by
 unfold law4_GraphLoopsAreLoops.f
 rcases Loop_eq hs with ⟨f, h1, h2, _⟩ | ⟨h, ⟨L, l1, h2, h3⟩ | ⟨h2, O, h3⟩⟩
 ·rw [h2]
  simp only [ob_s, cb_not, cb_dec, if_neg h1, List.length_nil, awake4]
  rfl
 ·rw [h2, h3]
  have hgl := h.len
  have hll := nodup_len (n := g.length) (L := L) (by
   rw [List.Nodup, List.pairwise_iff_getElem]
   exact fun i j hi hj hij => l1.nodup i j hj hij) l1.lt
  have hne := l1.ne
  have go : ∀ (n i : Nat), L.length - i = n → i ≤ L.length → law4_GraphLoopsAreLoops.l0 g (L.map (labN g)) (i : Int) = some (.inr ()) := by
   intro n
   induction n with
   | zero =>
    intro i hn hi
    refine loopX_done ?_
    simp only [law4_GraphLoopsAreLoops.s0, cb_dec, List.length_map]
    rw [if_neg (by omega)]
   | succ n ih =>
    intro i hn hi
    have hlt : i < L.length := by omega
    have hlt' : i < (L.map (labN g)).length := by simpa using hlt
    refine (loopX_next ?_).trans (ih (i + 1) (by omega) (by omega))
    have hed := l1.ed i hlt
    obtain ⟨q, hq, hqe, hqm⟩ : ∃ q : Nat, ∃ hq : q < L.length, Ed g L[i] L[q] ∧ Int.tmod ((i : Int) + 1) (L.length : Int) = (q : Int) := by
     by_cases hc : i + 1 < L.length
     ·rw [dif_pos hc] at hed
      exact ⟨i + 1, hc, hed, by rw [Int.tmod_eq_of_lt (by omega) (by omega)]; rfl⟩
     ·rw [dif_neg hc] at hed
      refine ⟨0, hne, hed, ?_⟩
      rw [show (i : Int) + 1 = (L.length : Int) by omega, Int.tmod_self]; rfl
    have hq' : q < (L.map (labN g)).length := by simpa using hq
    obtain ⟨b, hb, hb2⟩ := contB (l := (L.map (labN g)).take i) (by rw [List.length_take, List.length_map]; omega) (labN g L[i])
    have hbf : b = false := by
     cases b with
     | false => rfl
     | true =>
      exfalso
      have hm := hb2.1 rfl
      obtain ⟨p, hp, he⟩ := List.getElem_of_mem hm
      have hpi : p < i := by have := hp; simp at this; omega
      rw [List.getElem_take, List.getElem_map] at he
      have := labN_inj h (l1.lt _ (List.getElem_mem (by omega : p < L.length))) (l1.lt _ (List.getElem_mem hlt)) he
      exact l1.nodup p i hlt hpi this
    simp only [law4_GraphLoopsAreLoops.s0, cb_dec, rd_lt hlt', List.length_map, hqm, rd_lt hq', List.getElem_map, needs_ed h hqe, ob_s, Bool.not_true, cb_f, Int.toNat_natCast, hb, hbf]
    rw [if_pos (by omega), ck_pos (by omega), ck_in (by omega) (by omega), ck_pos (by omega), ck_pos (by omega), ck_pos (by omega), ck_pos (by omega), ck_in (by omega) (by omega)]
    rfl
  have h4 := go L.length 0 (by omega) (by omega)
  rw [show ((0 : Nat) : Int) = 0 from rfl] at h4
  simp only [ob_s, h4, caseS_r, awake4, List.length_map, decide_true, Bool.not_true, cb_f, beq_self_eq_true]
  rw [decide_eq_true (show (0 : Int) < (L.length : Int) by omega)]
  rfl
 ·rw [h2, h3]
  have h4 : law4_GraphLoopsAreLoops.l0 g [] 0 = some (.inr ()) := loopX_done (by rfl)
  simp only [ob_s, h4, caseS_r, awake4, List.length_nil]
  rfl
end
end Go.Proofs.YtafalbofjmfbnaaDoor
set_option linter.unusedVariables false
set_option linter.unusedSimpArgs false
set_option maxRecDepth 100000
set_option maxHeartbeats 4000000
namespace Go.Proofs.YtafalbofjmfbnaaDoor
open Go Go.RowKit Go.ChangeShapes Go.WideShapes Go.ChangeAt Go.Proofs.YtafalbofjmfbnaaDoor.Eng
theorem nodes_in (l : List Nd) (hx : InA T 6 [22] [.slice (.pair .str (.pair .str (.pair (.slice .str) (.pair (.slice .str) (.pair (.slice .str) (.int .i64))))))] l) : ∀ n ∈ l, szNd n := by
 have hr : reachBytes ≤ BIG := by unfold BIG; decide +kernel
 intro n hn
 have h := hx.2 n hn
 exact ⟨Nat.le_trans (show n.1.size ≤ reachBytes from h.1) hr, fun x hm => Nat.le_trans (show x.size ≤ reachBytes from h.2.2.1.2 x hm) hr, fun x hm => Nat.le_trans (show x.size ≤ reachBytes from h.2.2.2.1.2 x hm) hr, fun x hm => Nat.le_trans (show x.size ≤ reachBytes from h.2.2.2.2.1.2 x hm) hr⟩
theorem own : ownKnob Tryd.prog.godebug = none := by kernel_rfl
theorem laidOut : laidOutB Tryd.prog = true := by kernel_rfl
end Go.Proofs.YtafalbofjmfbnaaDoor
set_option linter.unusedVariables false
set_option linter.unusedSimpArgs false
set_option maxRecDepth 100000
set_option maxHeartbeats 4000000
namespace Go.Proofs.YtafalbofjmfbnaaDoor
open Go Go.RowKit Go.ChangeShapes Go.WideShapes Go.ChangeAt Go.Proofs.YtafalbofjmfbnaaDoor.Eng
theorem graphLoopsAreLoops_av (xs : List AV) (h : ShapeA T 6 [22] xs) : FPure Tryd.prog 5 xs (.v (.bool true)) :=
 law_typed (T := T) (m := 6) (ts := [22]) law4_GraphLoopsAreLoops.ok (by kernel_rfl) (fun x hx => law_LL (nodes_in x hx)) xs h
theorem graphLoopsAreLoops_lifted (os : Os) (started : os.Started) (H : Type) (enc : TypeId × Value → H) :
  ReturnsInHanded {} Tryd.checked os 5 .any (fun w args => (Rows.graphLoopsAreLoopsSpec.pre enc Tryd.prog Tryd.f5 Rows.graphLoopsAreLoopsRow.domain false w args ∧ laidMetH Tryd.prog Rows.graphLoopsAreLoopsRow.laid w) ∧ sizedMet enc Tryd.prog Tryd.f5 (OpenSpec.ofChange Rows.graphLoopsAreLoopsSpec) false w args)
   (Rows.graphLoopsAreLoopsSpec.post enc Tryd.prog Tryd.f5 false true false false) := by
 refine returnsInHanded_of_change_and (C := Tryd.checked) (X := fun w _ => laidMetH Tryd.prog Rows.graphLoopsAreLoopsRow.laid w) (fun _ _ _ hh h => h.of_heap hh) own started (by kernel_rfl) Tryd.func5
  (ChangeSpec.witness_shaped (enc := enc) (C := Tryd.checked) (os := os) (X := fun w _ => laidMetH Tryd.prog Rows.graphLoopsAreLoopsRow.laid w) false (World.laidAll Tryd.prog os Rows.graphLoopsAreLoopsRow.laid) #[.slice none 0 0] 8 (World.laidAll_os _ _ _)
   (World.shaped_of_ZipB (by kernel_rfl) (by kernel_rfl)) (by kernel_rfl) (by kernel_rfl) (by kernel_rfl)
   (by rw [MakeChecks.laidMetH_plain _ _ _ (by kernel_rfl)]; exact laidMet_laidAll _ (by kernel_rfl) (by kernel_rfl))) ?_
 intro W base args ds gs before hval0 hW hcnd hsz0 hL _
 have hW' := hW
 obtain ⟨p, q, hA0, hV, rfl, hfz, hnd⟩ := hW
 have hsz : (DataW.weightsEach Tryd.prog (Tryd.f5.params.toList ++ Rows.graphLoopsAreLoopsSpec.plain.varTypes Tryd.prog) (ds ++ gs)).all (· ≤ reachBytes) = true := hsz0
 have hA : DataW.TrodAll enc Tryd.prog W 0 (fun _ => true) true [22] args.toList ds p := hA0
 obtain ⟨rfl, rfl⟩ := trodVars_none hV
 have hlaw := law_calls (r := .any) (b0 := base) tabOK laidOut graphLoopsAreLoops_av (by decide +kernel) (by kernel_rfl) hA (fun j t v h1 h2 => hval0 j t v (by simpa using h1) (by simpa using h2)) (by rw [List.append_nil] at hsz; exact hsz)
 simp only [Array.toArray_toList] at hlaw
 refine hlaw.mono fun e W' ⟨he, bel, hback⟩ => ?_
 subst he
 obtain ⟨d1, hds⟩ : ∃ d1, ds = [d1] := by
  obtain ⟨_, _, d1, _, _, _, _, rfl, _, _, h⟩ := trodAll_cons hA
  obtain ⟨_, rfl, _⟩ := trodAll_nil h
  exact ⟨d1, rfl⟩
 subst hds
 exact ⟨_, rfl, _, _, _, [], _, [], hW', trodAll_mk1 (shut_bool Tryd.underlying4 _), hback, rfl, bel.frame _, fun h => by cases h⟩
theorem graphLoopsAreLoops_facts : joinedFacts Tryd.prog 5 Tryd.f5 Rows.graphLoopsAreLoopsSpec Rows.graphLoopsAreLoopsRow = true := by
 unfold joinedFacts
 rw [laidOut, e_make, e_lifted, e_may]
 kernel_rfl
theorem graphLoopsAreLoops_over : Rows.graphLoopsAreLoopsRow.holds Tryd.pinned (OpenSpec.ofChange Rows.graphLoopsAreLoopsSpec) :=
 OpenClaim.holds_of_wide 5 Tryd.f5 rfl rfl rfl rfl rfl rfl rfl ⟨rfl, rfl, rfl, rfl, rfl⟩ rfl rfl rfl rfl rfl (by kernel_rfl) Tryd.func5 graphLoopsAreLoops_facts
  (of_decide_eq_true (by kernel_rfl)) (by unfold Func.isWrapper; first | (rw [if_pos (by decide +kernel)]; kernel_rfl) | (rw [if_neg (by decide +kernel)]; exact ⟨rfl, rfl⟩))
  (fun os started H enc _ => graphLoopsAreLoops_lifted os started H enc)
theorem graphLoopsAreLoops_wf : Rows.graphLoopsAreLoopsRow.wfByText (OpenSpec.ofChange Rows.graphLoopsAreLoopsSpec) = true := by kernel_rfl
theorem graphLoopsAreLoops_main : Tryd.pinned.checked.prog.mainIs = some (true, "1092b4553f88940e8c582512ebac33dffa2401166445bdfd8d1fed2006d5252b".toList) := e_main
theorem graphLoopsAreLoops_looks : false = Tryd.pinned.checked.prog.looks [] := by kernel_rfl
theorem graphLoopsAreLoops_goes : false = Rows.graphLoopsAreLoopsRow.goesBy Tryd.pinned.checked.prog := by kernel_rfl
theorem graphLoopsAreLoops_named : Tryd.prog.funcNamed "smithyard/smithyardlaw4.GraphLoopsAreLoops" = some 5 := by kernel_rfl
theorem graphLoopsAreLoops_noStand : ([22].all fun u => !Tryd.prog.wantsStandIn u) = true := by kernel_rfl
theorem graphLoopsAreLoops_holds : Rows.GraphLoopsAreLoopsCardSaid :=
 Claim7.holds_tied_plain_at .later [] [.data, .pinned] true (true, "1092b4553f88940e8c582512ebac33dffa2401166445bdfd8d1fed2006d5252b") false graphLoopsAreLoops_over (fun _ h => by cases h) graphLoopsAreLoops_wf (fun _ h => by cases h) graphLoopsAreLoops_row_tie rfl ⟨rfl, rfl⟩ graphLoopsAreLoops_main rfl
  (fun f fn hf hfn => by
   obtain rfl : f = 5 := Option.some.inj (graphLoopsAreLoops_named.symm.trans hf) |>.symm
   obtain rfl : fn = Tryd.f5 := (Option.some.inj (Tryd.func5.symm.trans hfn)).symm
   exact ⟨graphLoopsAreLoops_looks, fun j t ht => by
    rw [Tryd.params5] at ht
    have hm : t ∈ [22] := by simpa using Array.mem_of_getElem? ht
    exact (show Tryd.prog.wantsStandIn t = false by simpa using List.all_eq_true.1 graphLoopsAreLoops_noStand t hm)⟩)
  graphLoopsAreLoops_goes
end Go.Proofs.YtafalbofjmfbnaaDoor
