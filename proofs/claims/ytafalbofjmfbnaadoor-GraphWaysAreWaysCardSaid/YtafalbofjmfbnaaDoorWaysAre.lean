/-
  The law GraphWaysAreWays hands back true for every argument, and leaves its arguments as they were. No condition.
-/
import Derived.Test.YtafalbofjmfbnaaDoorSteps
import Derived.Test.YtafalbofjmfbnaaDoorWays
import Derived.Test.YtafalbofjmfbnaaDoorPlain1
import Derived.Test.YtafalbofjmfbnaaDoorFacts
import Derived.Test.YtafalbofjmfbnaaDoorTypB
import Derived.Test.YtafalbofjmfbnaaDoorRows
import Derived.Test.YtafalbofjmfbnaaDoorCards
import Derived.Test.YtafalbofjmfbnaaDoorTie
import Derived.ProofKit
import Derived.LaidMore
import Derived.Lay
import Derived.OpenShut
import Derived.SevenTiedAt
import Derived.Stop.Joined
set_option linter.unusedVariables false
set_option linter.unusedSimpArgs false
namespace Go.Proofs.YtafalbofjmfbnaaDoor
open Go Go.Proofs.YtafalbofjmfbnaaDoor.Eng
section
variable {g : List Nd}
theorem tree_eq (hs : ∀ n ∈ g, szNd n) : (∃ f : Int, f ≠ 0 ∧ graph_tree.f g = some (none, ([], f))) ∨ (Right g ∧ ∃ L, Ord g L ∧ L.length = g.length ∧ graph_tree.f g = some (net g, (ints L, 0))) := by
 unfold graph_tree.f
 rcases open_eq hs with ⟨f, h1, h2⟩ | ⟨h, h2⟩
 ·rw [h2]
  simp only [ob_s, cb_not, cb_dec, if_neg h1]
  exact .inl ⟨f, h1, rfl⟩
 ·rw [h2]
  simp only [ob_s, cb_not, cb_dec, if_true]
  rcases order_eq h with ⟨R, r1, r2, r3⟩ | ⟨L, r1, r2, r3⟩
  ·left
   rw [r3]
   exact ⟨17, by decide, rfl⟩
  ·rw [r3]
   exact .inr ⟨h, L, r1, r2, rfl⟩
theorem at_lab (h : Right g) {x : Nat} (hx : x < g.length) : graph_at.f g (labN g x) = some (x : Int) := by
 rcases h.at (labN g x) with ⟨h1, h2⟩
 rcases h2 with ⟨_, h3⟩ | ⟨k, h3, hk, h4⟩
 ·exact absurd (labN_get hx).symm (h3 x hx)
 ·rw [h1, h3, labN_inj h hk hx (by rw [labN_get hk, h4])]
theorem two_eq (hs : ∀ n ∈ g, szNd n) (a b : ByteArray) : (∃ f : Int, f ≠ 0 ∧ graph_two.f g a b = some (none, (0, (0, f)))) ∨
  (Right g ∧ ∃ O x y, x < g.length ∧ y < g.length ∧ labN g x = a ∧ labN g y = b ∧ graph_tree.f g = some (net g, (O, 0)) ∧ graph_two.f g a b = some (net g, ((x : Int), ((y : Int), 0)))) := by
 unfold graph_two.f
 rcases tree_eq hs with ⟨f, h1, h2⟩ | ⟨h, L, _, _, h2⟩
 ·rw [h2]
  simp only [ob_s, cb_not, cb_dec, if_neg h1]
  exact .inl ⟨f, h1, rfl⟩
 ·rw [h2]
  obtain ⟨a1, a2⟩ := h.at a
  obtain ⟨b1, b2⟩ := h.at b
  simp only [ob_s, cb_not, cb_dec, if_true, a1, b1]
  rcases a2 with ⟨a2, _⟩ | ⟨x, a2, hx, a3⟩
  ·rw [if_pos (by omega)]
   exact .inl ⟨9, by decide, rfl⟩
  ·rw [if_neg (by omega)]
   rcases b2 with ⟨b2, _⟩ | ⟨y, b2, hy, b3⟩
   ·rw [if_pos (by omega)]
    exact .inl ⟨9, by decide, rfl⟩
   ·rw [if_neg (by omega), a2, b2]
    exact .inr ⟨h, _, x, y, hx, hy, by rw [labN_get hx, a3], by rw [labN_get hy, b3], rfl, rfl⟩
theorem numbers_one (h : Right g) {x : Nat} (hx : x < g.length) : graph_net_numbers.f (net g) [labN g x] = some (ints [x], 0) := by
 have l : graph_net_numbers.l0 (net g) [labN g x] 1 0 [] = some (.inr [(x : Int)]) := by
  refine (loopX_next (x' := (1, [(x : Int)])) ?_).trans (loopX_done (by rfl))
  have e : rd ByteArray.empty [labN g x] 0 = labN g x := rfl
  simp only [graph_net_numbers.s0, cb_dec, e, Option.isSome_some, Option.getD_some, ck_tr, at_lab h hx, ob_s]
  rw [if_pos (by decide), ck_pos (by simp only [List.length_cons, List.length_nil]; decide), if_neg (by omega), ck_pos (by simp only [List.length_cons, List.length_nil]; decide), ck_in (by decide) (by decide)]
  rfl
 unfold graph_net_numbers.f
 show cb _ _ (ob (graph_net_numbers.l0 (net g) [labN g x] 1 0 []) _) = _
 rw [l]
 rfl
theorem reached_ok (h : Right g) {O : List Int} (ht : graph_tree.f g = some (net g, (O, 0))) {x : Nat} (hx : x < g.length) {m : Int} (m1 : -1 ≤ m) (m2 : m ≤ 1000) :
  ∃ d : List Int, Far g.length (Dir g false) (· ∈ [x]) (fun k => d.getD k 0) ∧ graph_reached.f g [labN g x] m false = some ((Wi g.length d m).map (labN g), 0) := by
 have hgl := h.len
 obtain ⟨d, d1, d2, d3, d4⟩ := within_eq h false (S := [x]) (fun s hs => by rw [List.mem_singleton.1 hs]; exact hx) (by simp) m
 have hwl := Wi_len g.length d m
 have hlab := labels_eq g (depsA g) (usersA g) (L := Wi g.length d m) (by omega) hgl (fun x hx => (mem_Wi.1 hx).1)
 have d2' : graph_within.f (depsA g) (ints [x]) m = _ := d2
 refine ⟨d, d1, ?_⟩
 unfold graph_reached.f
 rw [ht]
 simp only [ob_s, cb_not, cb_dec, if_true, numbers_one h hx, Option.isSome_some, Option.getD_some, ck_tr, cb_f, d2', hlab]
 rw [if_neg (by omega), if_neg (by omega)]
def Be (n : Nat) (d e : List Int) : List Nat := (List.range n).filter fun k => decide (0 ≤ d.getD k 0 ∧ 0 ≤ e.getD k 0)
theorem mem_Be {n : Nat} {d e : List Int} {k : Nat} : k ∈ Be n d e ↔ k < n ∧ 0 ≤ d.getD k 0 ∧ 0 ≤ e.getD k 0 := by
 unfold Be
 rw [List.mem_filter, List.mem_range, decide_eq_true_eq]
theorem Be_succ (n : Nat) (d e : List Int) : Be (n + 1) d e = Be n d e ++ (if 0 ≤ d.getD n 0 ∧ 0 ≤ e.getD n 0 then [n] else []) := by
 unfold Be
 rw [List.range_succ, List.filter_append]
 congr 1
 by_cases h : 0 ≤ d.getD n 0 ∧ 0 ≤ e.getD n 0
 ·rw [if_pos h, List.filter_cons, if_pos (decide_eq_true h)]; rfl
 ·rw [if_neg h, List.filter_cons, if_neg (by simpa only [decide_eq_true_eq] using h)]; rfl
theorem Be_len (n : Nat) (d e : List Int) : (Be n d e).length ≤ n := by
 have := List.length_filter_le (fun k => decide (0 ≤ d.getD k 0 ∧ 0 ≤ e.getD k 0)) (List.range n)
 rw [List.length_range] at this
 exact this
theorem beLoop {d e : List Int} {m : Nat} (hd : d.length = m) (he : e.length = m) (hm : m ≤ 1000) : ∀ (n i : Nat), m - i = n → i ≤ m → graph_net_between.l0 d e (m : Int) (i : Int) (ints (Be i d e)) = some (ints (Be m d e)) := by
 intro n
 induction n with
 | zero =>
  intro i hn hi
  have e' : i = m := by omega
  subst e'
  refine loopX_done ?_
  simp only [graph_net_between.s0, cb_dec]
  rw [if_neg (by omega)]
 | succ n ih =>
  intro i hn hi
  have hlt : i < m := by omega
  have hl := Be_len i d e
  refine (loopX_next ?_).trans (ih (i + 1) (by omega) (by omega))
  have er := d_rd (d := d) (k := i) (by omega)
  have er2 := d_rd (d := e) (k := i) (by omega)
  have hadd : ints (Be i d e) ++ [(i : Int)] = ints (Be i d e ++ [i]) := by simp [ints]
  simp only [graph_net_between.s0, cb_dec, er, er2, Be_succ]
  rw [if_pos (by omega), ck_pos (by omega)]
  by_cases h1 : 0 ≤ d.getD i 0
  ·rw [if_pos h1, ck_pos (by omega)]
   by_cases h2 : 0 ≤ e.getD i 0
   ·rw [if_pos h2, ck_pos (by simp only [List.length_map, List.length_cons, List.length_nil]; omega), ck_in (by omega) (by omega), if_pos ⟨h1, h2⟩, hadd]; rfl
   ·rw [if_neg h2, ck_in (by omega) (by omega), if_neg (fun h => h2 h.2), List.append_nil]; rfl
  ·rw [if_neg h1, ck_in (by omega) (by omega), if_neg (fun h => h1 h.1), List.append_nil]; rfl
theorem law_WW (hs : ∀ n ∈ g, szNd n) (a b : ByteArray) : law4_GraphWaysAreWays.f g a b = some true := by
 unfold law4_GraphWaysAreWays.f graph_Why.f
 rcases two_eq hs a b with ⟨f, h1, h2⟩ | ⟨h, O, x, y, hx, hy, ea, eb, ht, h2⟩
 ·rw [h2]
  simp only [ob_s, cb_not, cb_dec, if_neg h1, List.length_nil, awake4]
  rfl
 ·have hgl := h.len
  have hdl : (depsA g).length = g.length := by simp [depsA]
  obtain ⟨d0, a1, a2, a3, a4⟩ := steps_net h false (S := [x]) (fun s hs => by rw [List.mem_singleton.1 hs]; exact hx) (by simp)
  obtain ⟨d, b1, b2, b3, b4⟩ := steps_net h true (S := [y]) (fun s hs => by rw [List.mem_singleton.1 hs]; exact hy) (by simp)
  have a1' : graph_steps.f (depsA g) [(x : Int)] = some d0 := a1
  have b1' : graph_steps.f (usersA g) [(y : Int)] = some d := b1
  have hr := d_rd (d := d0) (k := y) (by omega)
  have hbt : graph_Between.f g a b = some ((Be g.length d0 d).map (labN g), 0) := by
   unfold graph_Between.f graph_net_between.f
   have hl := beLoop (d := d0) (e := d) (m := g.length) a2 b2 hgl g.length 0 (by omega) (by omega)
   have hl' : graph_net_between.l0 d0 d (g.length : Int) 0 [] = some (ints (Be g.length d0 d)) := hl
   have hbl := Be_len g.length d0 d
   have hlab := labels_eq g (depsA g) (usersA g) (L := Be g.length d0 d) (by omega) hgl (fun x hx => (mem_Be.1 hx).1)
   rw [h2]
   simp only [ob_s, cb_not, cb_dec, if_true, Option.isSome_some, Option.getD_some, ck_tr, a1', b1', hl', hlab]
  rw [h2]
  simp only [ob_s, cb_not, cb_dec, if_true, Option.isSome_some, Option.getD_some, ck_tr, a1', hr]
  rw [ck_pos (by omega)]
  by_cases hno : d0.getD y 0 < 0
  ·rw [if_pos hno]
   simp only [ob_s, if_true, cb_f, List.length_nil, awake4]
   rfl
  ·rw [if_neg hno]
   have ft : 0 ≤ d.getD x 0 ∧ d.getD x 0 ≤ d0.getD y 0 := far_turn (d := fun k => d0.getD k 0) (d' := fun k => d.getD k 0) h hx hy a3 b3 (by omega)
   have ft2 : 0 ≤ d0.getD y 0 ∧ d0.getD y 0 ≤ d.getD x 0 := far_turn (d := fun k => d.getD k 0) (d' := fun k => d0.getD k 0) h hy hx b3 a3 ft.1
   obtain ⟨W, w1, w2⟩ := way_eq h hx hy b1 b2 b3 b4 ft.1
   have hwl := w2.len
   have hxl := b4 x hx
   have hw0 : 0 < W.length := by omega
   have hlab := labels_eq g (depsA g) (usersA g) (L := W) (by omega) hgl w2.lt
   have hfirst : rd ByteArray.empty (W.map (labN g)) 0 = a := by
    have h0 := w2.at0
    rw [List.getElem?_eq_getElem hw0] at h0
    have := rd_lt (d := ByteArray.empty) (xs := W.map (labN g)) (k := 0) (by simpa using hw0)
    rw [show ((0 : Nat) : Int) = 0 from rfl] at this
    rw [this, List.getElem_map, Option.some.inj h0, ea]
   have hlast : rd ByteArray.empty (W.map (labN g)) ((W.length : Int) - 1) = b := by
    have h0 := w2.last
    rw [List.getElem?_eq_getElem (by omega)] at h0
    rw [show (W.length : Int) - 1 = ((W.length - 1 : Nat) : Int) by omega, rd_lt (by simp; omega), List.getElem_map, Option.some.inj h0, eb]
   have hbel := Be_len g.length d0 d
   have reach : ∀ (i : Nat) (hi : i < W.length), Go.Proofs.YtafalbofjmfbnaaDoor.Eng.Way (Ed g) x W[i] i := fun i => by
    induction i with
    | zero =>
     intro hi
     have h0 := w2.at0
     rw [List.getElem?_eq_getElem hw0] at h0
     rw [Option.some.inj h0]
     exact .nil _
    | succ i ih => exact fun hi => .snoc (ih (by omega)) (w2.ed i hi)
   have go : ∀ (n i : Nat), W.length - i = n → i ≤ W.length → law4_GraphWaysAreWays.l0 g (W.map (labN g)) ((Be g.length d0 d).map (labN g)) (i : Int) = some (.inr ()) := by
    intro n
    induction n with
    | zero =>
     intro i hn hi
     refine loopX_done ?_
     simp only [law4_GraphWaysAreWays.s0, cb_dec, List.length_map]
     rw [if_neg (by omega)]
    | succ n ih =>
     intro i hn hi
     have hlt : i < W.length := by omega
     have hlt' : i < (W.map (labN g)).length := by simpa using hlt
     refine (loopX_next ?_).trans (ih (i + 1) (by omega) (by omega))
     obtain ⟨c, c1, c2⟩ := contB (l := (Be g.length d0 d).map (labN g)) (by rw [List.length_map]; omega) (labN g W[i])
     have hin : W[i] ∈ Be g.length d0 d := by
      have h3 := a3.way (fun k y e => dir_lt h _ e) hx (List.mem_singleton.2 rfl) (reach i hlt)
      have h4 := w2.dist i hlt
      exact mem_Be.2 ⟨w2.lt _ (List.getElem_mem hlt), h3.1, by omega⟩
     have hc : c = true := c2.2 (List.mem_map.2 ⟨_, hin, rfl⟩)
     simp only [law4_GraphWaysAreWays.s0, cb_dec, List.length_map, rd_lt hlt', List.getElem_map, c1, hc, ob_s, Bool.not_true, cb_f]
     rw [if_pos (by omega), ck_pos (by omega)]
     by_cases hi0 : (0 : Int) < (i : Int)
     ·have hed := w2.ed (i - 1) (by omega)
      have e1 : i - 1 + 1 = i := by omega
      simp only [e1] at hed
      have hm1 : rd ByteArray.empty (W.map (labN g)) ((i : Int) - 1) = labN g (W[i - 1]'(by omega)) := by
       rw [show (i : Int) - 1 = ((i - 1 : Nat) : Int) by omega, rd_lt (by simp; omega), List.getElem_map]
      simp only [hm1, needs_ed h hed, ob_s, Bool.not_true, cb_f]
      rw [if_pos hi0, ck_in (by omega) (by omega), ck_pos (by omega), ck_pos (by omega), ck_in (by omega) (by omega)]
      rfl
     ·rw [if_neg hi0, ck_in (by omega) (by omega)]
      rfl
   have h4 := go W.length 0 (by omega) (by omega)
   rw [show ((0 : Nat) : Int) = 0 from rfl] at h4
   rw [w1]
   simp only [ob_s, hlab, if_true, cb_t, hbt, List.length_map, hfirst, hlast, decide_true, Bool.not_true, h4, caseS_r, awake4]
   rw [if_neg (by omega), ck_pos (by omega), ck_in (by omega) (by omega), ck_pos (by omega)]
   by_cases hone : (W.length : Int) = 1
   ·rw [if_pos hone]
   ·rw [if_neg hone, ck_in (by omega) (by omega), if_neg (by omega), ck_in (by omega) (by omega)]
    obtain ⟨e, e1, e2⟩ := reached_ok h ht hx (m := (W.length : Int) - 2) (by omega) (by omega)
    rw [ea] at e2
    have he : e.getD y 0 = d0.getD y 0 := e1.uniq a3 (fun k y he => dir_lt h _ he) hy
    have hwil := Wi_len g.length e ((W.length : Int) - 2)
    obtain ⟨c, c1, c2⟩ := contB (l := (Wi g.length e ((W.length : Int) - 2)).map (labN g)) (by rw [List.length_map]; omega) b
    have hc : c = false := by
     cases c with
     | false => rfl
     | true =>
      exfalso
      obtain ⟨q, q1, q2⟩ := List.mem_map.1 (c2.1 rfl)
      have q3 := mem_Wi.1 q1
      rw [labN_inj h q3.1 hy (by rw [q2, eb]), he] at q3
      omega
    unfold graph_Needs.f
    simp only [e2, ob_s, if_true, c1, hc, awake4]
    rfl
end
end Go.Proofs.YtafalbofjmfbnaaDoor
set_option linter.unusedVariables false
set_option linter.unusedSimpArgs false
set_option maxRecDepth 100000
set_option maxHeartbeats 4000000
namespace Go.Proofs.YtafalbofjmfbnaaDoor
open Go Go.RowKit Go.ChangeShapes Go.WideShapes Go.ChangeAt Go.Proofs.YtafalbofjmfbnaaDoor.Eng
theorem nodes_in (l : List Nd) (hx : InA T 6 [22] [.slice (.pair .str (.pair .str (.pair (.slice .str) (.pair (.slice .str) (.pair (.slice .str) (.int .i64))))))] l) : ∀ n ∈ l, szNd n := by
 have hr : reachBytes ≤ BIG := by unfold BIG; decide +kernel
 intro n hn
 have h := hx.2 n hn
 exact ⟨Nat.le_trans (show n.1.size ≤ reachBytes from h.1) hr, fun x hm => Nat.le_trans (show x.size ≤ reachBytes from h.2.2.1.2 x hm) hr, fun x hm => Nat.le_trans (show x.size ≤ reachBytes from h.2.2.2.1.2 x hm) hr, fun x hm => Nat.le_trans (show x.size ≤ reachBytes from h.2.2.2.2.1.2 x hm) hr⟩
theorem own : ownKnob Tryd.prog.godebug = none := by kernel_rfl
theorem laidOut : laidOutB Tryd.prog = true := by kernel_rfl
end Go.Proofs.YtafalbofjmfbnaaDoor
set_option linter.unusedVariables false
set_option linter.unusedSimpArgs false
set_option maxRecDepth 100000
set_option maxHeartbeats 4000000
namespace Go.Proofs.YtafalbofjmfbnaaDoor
open Go Go.RowKit Go.ChangeShapes Go.WideShapes Go.ChangeAt Go.Proofs.YtafalbofjmfbnaaDoor.Eng
theorem graphWaysAreWays_av (xs : List AV) (h : ShapeA T 6 [22,9,9] xs) : FPure Tryd.prog 12 xs (.v (.bool true)) :=
 law_typed (T := T) (m := 6) (ts := [22,9,9]) law4_GraphWaysAreWays.ok (by kernel_rfl) (fun x hx => law_WW (nodes_in x.1 hx.1) x.2.1 x.2.2) xs h
theorem graphWaysAreWays_lifted (os : Os) (started : os.Started) (H : Type) (enc : TypeId × Value → H) :
  ReturnsInHanded {} Tryd.checked os 12 .any (fun w args => (Rows.graphWaysAreWaysSpec.pre enc Tryd.prog Tryd.f12 Rows.graphWaysAreWaysRow.domain false w args ∧ laidMetH Tryd.prog Rows.graphWaysAreWaysRow.laid w) ∧ sizedMet enc Tryd.prog Tryd.f12 (OpenSpec.ofChange Rows.graphWaysAreWaysSpec) false w args)
   (Rows.graphWaysAreWaysSpec.post enc Tryd.prog Tryd.f12 false true false false) := by
 refine returnsInHanded_of_change_and (C := Tryd.checked) (X := fun w _ => laidMetH Tryd.prog Rows.graphWaysAreWaysRow.laid w) (fun _ _ _ hh h => h.of_heap hh) own started (by kernel_rfl) Tryd.func12
  (ChangeSpec.witness_shaped (enc := enc) (C := Tryd.checked) (os := os) (X := fun w _ => laidMetH Tryd.prog Rows.graphWaysAreWaysRow.laid w) false (World.laidAll Tryd.prog os Rows.graphWaysAreWaysRow.laid) #[.slice none 0 0, .string ByteArray.empty, .string ByteArray.empty] 8 (World.laidAll_os _ _ _)
   (World.shaped_of_ZipB (by kernel_rfl) (by kernel_rfl)) (by kernel_rfl) (by kernel_rfl) (by kernel_rfl)
   (by rw [MakeChecks.laidMetH_plain _ _ _ (by kernel_rfl)]; exact laidMet_laidAll _ (by kernel_rfl) (by kernel_rfl))) ?_
 intro W base args ds gs before hval0 hW hcnd hsz0 hL _
 have hW' := hW
 obtain ⟨p, q, hA0, hV, rfl, hfz, hnd⟩ := hW
 have hsz : (DataW.weightsEach Tryd.prog (Tryd.f12.params.toList ++ Rows.graphWaysAreWaysSpec.plain.varTypes Tryd.prog) (ds ++ gs)).all (· ≤ reachBytes) = true := hsz0
 have hA : DataW.TrodAll enc Tryd.prog W 0 (fun _ => true) true [22,9,9] args.toList ds p := hA0
 obtain ⟨rfl, rfl⟩ := trodVars_none hV
 have hlaw := law_calls (r := .any) (b0 := base) tabOK laidOut graphWaysAreWays_av (by decide +kernel) (by kernel_rfl) hA (fun j t v h1 h2 => hval0 j t v (by simpa using h1) (by simpa using h2)) (by rw [List.append_nil] at hsz; exact hsz)
 simp only [Array.toArray_toList] at hlaw
 refine hlaw.mono fun e W' ⟨he, bel, hback⟩ => ?_
 subst he
 obtain ⟨d1, d2, d3, hds⟩ : ∃ d1 d2 d3, ds = [d1, d2, d3] := by
  obtain ⟨_, _, d1, _, _, _, _, rfl, _, _, h⟩ := trodAll_cons hA
  obtain ⟨_, _, d2, _, _, _, _, rfl, _, _, h⟩ := trodAll_cons h
  obtain ⟨_, _, d3, _, _, _, _, rfl, _, _, h⟩ := trodAll_cons h
  obtain ⟨_, rfl, _⟩ := trodAll_nil h
  exact ⟨d1, d2, d3, rfl⟩
 subst hds
 exact ⟨_, rfl, _, _, _, [], _, [], hW', trodAll_mk1 (shut_bool Tryd.underlying4 _), hback, rfl, bel.frame _, fun h => by cases h⟩
theorem graphWaysAreWays_facts : joinedFacts Tryd.prog 12 Tryd.f12 Rows.graphWaysAreWaysSpec Rows.graphWaysAreWaysRow = true := by
 unfold joinedFacts
 rw [laidOut, e_make, e_lifted, e_may]
 kernel_rfl
theorem graphWaysAreWays_over : Rows.graphWaysAreWaysRow.holds Tryd.pinned (OpenSpec.ofChange Rows.graphWaysAreWaysSpec) :=
 OpenClaim.holds_of_wide 12 Tryd.f12 rfl rfl rfl rfl rfl rfl rfl ⟨rfl, rfl, rfl, rfl, rfl⟩ rfl rfl rfl rfl rfl (by kernel_rfl) Tryd.func12 graphWaysAreWays_facts
  (of_decide_eq_true (by kernel_rfl)) (by unfold Func.isWrapper; first | (rw [if_pos (by decide +kernel)]; kernel_rfl) | (rw [if_neg (by decide +kernel)]; exact ⟨rfl, rfl⟩))
  (fun os started H enc _ => graphWaysAreWays_lifted os started H enc)
theorem graphWaysAreWays_wf : Rows.graphWaysAreWaysRow.wfByText (OpenSpec.ofChange Rows.graphWaysAreWaysSpec) = true := by kernel_rfl
theorem graphWaysAreWays_main : Tryd.pinned.checked.prog.mainIs = some (true, "1092b4553f88940e8c582512ebac33dffa2401166445bdfd8d1fed2006d5252b".toList) := e_main
theorem graphWaysAreWays_looks : false = Tryd.pinned.checked.prog.looks [] := by kernel_rfl
theorem graphWaysAreWays_goes : false = Rows.graphWaysAreWaysRow.goesBy Tryd.pinned.checked.prog := by kernel_rfl
theorem graphWaysAreWays_named : Tryd.prog.funcNamed "smithyard/smithyardlaw4.GraphWaysAreWays" = some 12 := by kernel_rfl
theorem graphWaysAreWays_noStand : ([22,9,9].all fun u => !Tryd.prog.wantsStandIn u) = true := by kernel_rfl
theorem graphWaysAreWays_holds : Rows.GraphWaysAreWaysCardSaid :=
 Claim7.holds_tied_plain_at .later [] [.data, .pinned] true (true, "1092b4553f88940e8c582512ebac33dffa2401166445bdfd8d1fed2006d5252b") false graphWaysAreWays_over (fun _ h => by cases h) graphWaysAreWays_wf (fun _ h => by cases h) graphWaysAreWays_row_tie rfl ⟨rfl, rfl⟩ graphWaysAreWays_main rfl
  (fun f fn hf hfn => by
   obtain rfl : f = 12 := Option.some.inj (graphWaysAreWays_named.symm.trans hf) |>.symm
   obtain rfl : fn = Tryd.f12 := (Option.some.inj (Tryd.func12.symm.trans hfn)).symm
   exact ⟨graphWaysAreWays_looks, fun j t ht => by
    rw [Tryd.params12] at ht
    have hm : t ∈ [22,9,9] := by simpa using Array.mem_of_getElem? ht
    exact (show Tryd.prog.wantsStandIn t = false by simpa using List.all_eq_true.1 graphWaysAreWays_noStand t hm)⟩)
  graphWaysAreWays_goes
end Go.Proofs.YtafalbofjmfbnaaDoor
