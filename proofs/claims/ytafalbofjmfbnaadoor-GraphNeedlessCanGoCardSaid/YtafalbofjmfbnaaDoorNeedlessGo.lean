/-
  The law GraphNeedlessCanGo hands back true for every argument, and leaves its arguments as they were. No condition.
-/
import Derived.Test.YtafalbofjmfbnaaDoorBits
import Derived.Test.YtafalbofjmfbnaaDoorPlain1
import Derived.Test.YtafalbofjmfbnaaDoorFacts
import Derived.Test.YtafalbofjmfbnaaDoorTypB
import Derived.Test.YtafalbofjmfbnaaDoorRows
import Derived.Test.YtafalbofjmfbnaaDoorCards
import Derived.Test.YtafalbofjmfbnaaDoorTie
import Derived.ProofKit
import Derived.LaidMore
import Derived.Lay
import Derived.OpenShut
import Derived.SevenTiedAt
import Derived.Stop.Joined
set_option linter.unusedVariables false
set_option linter.unusedSimpArgs false
namespace Go.Proofs.YtafalbofjmfbnaaDoor
open Go Go.Proofs.YtafalbofjmfbnaaDoor.Eng
theorem equalS {l : List ByteArray} (hl : l.length ≤ 1000000000) : slices_Equal_string_string.f l l = some true := by
 have go : ∀ (n k : Nat), l.length - k = n → slices_Equal_string_string.l0 l l (l.length : Int) (k : Int) = some (.inr ()) := by
  intro n
  induction n with
  | zero =>
   intro k hn
   refine loopX_done ?_
   simp only [slices_Equal_string_string.s0, cb_dec]
   rw [if_neg (by omega)]
  | succ n ih =>
   intro k hn
   have hlt : k < l.length := by omega
   refine (loopX_next ?_).trans (ih (k + 1) (by omega))
   simp only [slices_Equal_string_string.s0, cb_dec, rd_lt hlt, cb_not, if_true]
   rw [if_pos (by omega), ck_pos (by omega), ck_pos (by omega), ck_in (by omega) (by omega)]
   rfl
 have h := go l.length 0 (by omega)
 rw [show ((0 : Nat) : Int) = 0 from rfl] at h
 unfold slices_Equal_string_string.f
 simp only [cb_not, cb_dec, if_true, h, ob_s, caseS_r]
section
variable {g : List Nd}
theorem numbers_none (h : Right g) (dp us : List (List Int)) {a : ByteArray} (ha : ∀ k, k < g.length → labN g k ≠ a) : graph_net_numbers.f (some (g, (dp, us))) [a] = some ([], 9) := by
 obtain ⟨h1, h2⟩ := h.at a
 rcases h2 with ⟨h2, _⟩ | ⟨k, _, hk, h4⟩
 ·have l : graph_net_numbers.l0 (some (g, (dp, us))) [a] 1 0 [] = some (.inl ([], 9)) := by
   refine loopX_done ?_
   have e : rd ByteArray.empty [a] 0 = a := rfl
   simp only [graph_net_numbers.s0, cb_dec, e, Option.isSome_some, Option.getD_some, ck_tr, h1, h2, ob_s]
   rw [if_pos (by decide), ck_pos (by simp only [List.length_cons, List.length_nil]; decide), if_pos (by decide)]
  unfold graph_net_numbers.f
  show cb _ _ (ob (graph_net_numbers.l0 (some (g, (dp, us))) [a] 1 0 []) _) = _
  rw [l]
  rfl
 ·exact absurd (by rw [labN_get hk, h4]) (ha k hk)
theorem tree_of (h : Right g) (ho : graph_open.f g = some (net g, 0)) (hno : ∀ x m, x < g.length → ¬ Go.Proofs.YtafalbofjmfbnaaDoor.Eng.Way (Ed g) x x (m + 1)) : ∃ L, Ord g L ∧ L.length = g.length ∧ graph_tree.f g = some (net g, (ints L, 0)) := by
 unfold graph_tree.f
 rw [ho]
 simp only [ob_s, cb_not, cb_dec, if_true]
 rcases order_eq h with ⟨R, r1, r2, r3⟩ | ⟨L, r1, r2, r3⟩
 ·exfalso
  obtain ⟨x, m, hx, hw⟩ := loop_of R r1 r2
  obtain ⟨y, _, he⟩ := r2 x hx
  exact hno x m he.1 hw
 ·rw [r3]
  exact ⟨L, r1, r2, rfl⟩
theorem law_NG (hs : ∀ n ∈ g, szNd n) (a : ByteArray) : law4_GraphNeedlessCanGo.f g a = some true := by
 unfold law4_GraphNeedlessCanGo.f
 rcases open_eq' hs with ⟨⟨f, f1, f2⟩, _⟩ | ⟨⟨h, ho⟩, hck⟩
 ·have ht : graph_tree.f g = some (none, ([], f)) := by
   unfold graph_tree.f
   rw [f2]
   simp only [ob_s, cb_not, cb_dec, if_neg f1]
  have hn : graph_Needless.f g = some ([], f) := by
   unfold graph_Needless.f
   rw [ht]
   simp only [ob_s, cb_not, cb_dec, if_neg f1]
  rw [hn]
  simp only [ob_s, cb_not, cb_dec, if_neg f1, List.length_nil, awake4]
  rfl
 ·rcases order_eq h with ⟨R, r1, r2, r3⟩ | ⟨L, hL, hl, r3⟩
  ·have ht : graph_tree.f g = some (none, ([], 17)) := by
    unfold graph_tree.f
    rw [ho]
    simp only [ob_s, cb_not, cb_dec, if_true, r3]
    rfl
   have hn : graph_Needless.f g = some ([], 17) := by
    unfold graph_Needless.f
    rw [ht]
    simp only [ob_s, cb_not, cb_dec]
    rw [if_neg (by decide)]
   rw [hn]
   simp only [ob_s, cb_not, cb_dec, List.length_nil, awake4]
   rfl
  ·have ht : graph_tree.f g = some (net g, (ints L, 0)) := by
    unfold graph_tree.f
    rw [ho]
    simp only [ob_s, cb_not, cb_dec, if_true, r3]
    rfl
   have hgl := h.len
   have hnl := hL.noloop h hl
   obtain ⟨x, x1, x2, x3⟩ := Needless_ok h hL hl ht
   have hless := lessOut (x := x) (by omega) hgl (fun n hn => (h.nd n hn).1) g.length 0 [] (by omega) (by omega) rfl
   rw [show ((0 : Nat) : Int) = 0 from rfl, List.nil_append, List.drop_zero] at hless
   have hs' := less_sz (x := x) hs
   have hlen : (less x g).length = g.length := less_len
   have hpos : ∀ s, 0 ≤ posI g s → 0 ≤ posI (less x g) s := fun s h0 => by
    obtain ⟨_, h2⟩ := pos_ok (g := less x g) (by omega) (by rw [less_labs]; exact h.lab) s
    rcases (h.at s).2 with ⟨h3, _⟩ | ⟨k, _, hk, h4⟩
    ·omega
    ·rcases h2 with ⟨_, h5⟩ | ⟨k', h5, _⟩
     ·have := h5 k (by omega)
      rw [less_get hk] at this
      exact absurd h4 this
     ·omega
   obtain ⟨h', ho'⟩ : Right (less x g) ∧ graph_open.f (less x g) = some (net (less x g), 0) := by
    rcases open_eq' hs' with ⟨_, hb⟩ | ⟨h1, _⟩
    ·exfalso
     rcases hb with hb | ⟨n, n1, n2⟩ | hb | ⟨n, n1, s, s1, s2⟩
     ·omega
     ·obtain ⟨m, m1, m2⟩ := List.mem_map.1 n1
      exact n2 (m2 ▸ less_node (hs m m1) (hck m m1))
     ·exact hb (by rw [less_labs]; exact h.lab)
     ·obtain ⟨m, m1, m2⟩ := List.mem_map.1 n1
      rw [← m2] at s1
      have := hpos s (h.dep m m1 s (List.mem_filter.1 s1).1)
      omega
    ·exact h1
   have hed : ∀ i k, Ed (less x g) i k ↔ Ed g i k ∧ (labN g i, labN g k) ∉ x := fun i k => by
    constructor
    ·intro he
     have hl' := h'.ed_lt he
     have hi : i < g.length := by omega
     have hk : k < g.length := by omega
     have hm := (D_label h' hl'.1 hl'.2).1 he.2
     rw [less_get hi, less_get hk] at hm
     have hm' := List.mem_filter.1 hm
     refine ⟨⟨hi, (D_label h hi hk).2 hm'.1⟩, ?_⟩
     rw [labN_get hi, labN_get hk]
     exact keepE_iff.1 hm'.2
    ·rintro ⟨he, hx⟩
     have hl' := h.ed_lt he
     have hi : i < (less x g).length := by omega
     have hk : k < (less x g).length := by omega
     refine ⟨hi, (D_label h' hi hk).2 ?_⟩
     rw [less_get hl'.1, less_get hl'.2]
     refine List.mem_filter.2 ⟨(D_label h hl'.1 hl'.2).1 he.2, keepE_iff.2 ?_⟩
     rw [labN_get hl'.1, labN_get hl'.2] at hx
     exact hx
   have hxi : ∀ i k, Ed g i k → ((labN g i, labN g k) ∈ x ↔ Nl g i k) := fun i k he => by
    rw [x3]
    constructor
    ·rintro ⟨q, k', q1, q2, q3⟩
     have hl' := h.ed_lt he
     have hq' := h.ed_lt q1
     injection q3 with e1 e2
     rw [labN_inj h hl'.1 hq'.1 e1, labN_inj h hl'.2 hq'.2 e2]
     exact q2
    ·exact fun hn => ⟨i, k, he, hn, rfl⟩
   have hmono : ∀ a b m, Go.Proofs.YtafalbofjmfbnaaDoor.Eng.Way (Ed (less x g)) a b m → Go.Proofs.YtafalbofjmfbnaaDoor.Eng.Way (Ed g) a b m := fun a b m hw => hw.mono fun i k he => ((hed i k).1 he).1
   obtain ⟨L', hL', hl', ht'⟩ := tree_of h' ho' (fun q m hq hw => hnl q m (by omega) (hmono _ _ _ hw))
   obtain ⟨y, y1, y2, y3⟩ := Needless_ok h' hL' hl' ht'
   have hy : y = [] := by
    refine List.eq_nil_iff_forall_not_mem.2 fun e he => ?_
    obtain ⟨q, k, q1, ⟨d, d1, m, d2⟩, _⟩ := (y3 e).1 he
    have q2 := (hed q k).1 q1
    exact q2.2 ((hxi q k q2.1).2 ⟨d, ((hed q d).1 d1).1, m, hmono _ _ _ d2⟩)
   have hposn : ∀ i k, Ed g i k → ∀ p q : Nat, ∀ hp : p < L.length, ∀ hq : q < L.length, L[p] = i → L[q] = k → q < p := fun i k he p q hp hq h1 h2 => by
    obtain ⟨r, hr, hre⟩ := List.getElem_of_mem (hL.dep p hp k (by rw [h1]; exact he))
    have hrp : r < p := by have := hr; simp at this; omega
    rw [List.getElem_take] at hre
    have := nodup_get hL.nodup (by omega : r < L.length) hq (by rw [hre, h2])
    omega
   have hwpos : ∀ i k m, Go.Proofs.YtafalbofjmfbnaaDoor.Eng.Way (Ed g) i k m → ∀ p q : Nat, ∀ hp : p < L.length, ∀ hq : q < L.length, L[p] = i → L[q] = k → q + m ≤ p := by
    intro i k m hw
    induction hw with
    | nil =>
     intro p q hp hq h1 h2
     have := nodup_get hL.nodup hp hq (by rw [h1, h2])
     omega
    | @snoc b c m hw e ih =>
     intro p q hp hq h1 h2
     obtain ⟨r, hr, hre⟩ := List.getElem_of_mem (hL.all hl e.1)
     have h3 := ih p r hp hr h1 hre
     have h4 := hposn b c e r q hr hq hre h2
     omega
   have key : ∀ (n p : Nat) (hp : p < L.length), p = n → ∀ k, Ed g L[p] k → ∃ m, Go.Proofs.YtafalbofjmfbnaaDoor.Eng.Way (Ed (less x g)) L[p] k m := by
    intro n
    induction n using Nat.strongRecOn with
    | _ n ih =>
     intro p hp hpn k hk
     have low : ∀ a b m, Go.Proofs.YtafalbofjmfbnaaDoor.Eng.Way (Ed g) a b m → (∀ r : Nat, ∀ hr : r < L.length, L[r] = a → r < p) → ∃ m', Go.Proofs.YtafalbofjmfbnaaDoor.Eng.Way (Ed (less x g)) a b m' := by
      intro a b m hw
      induction hw with
      | nil => exact fun _ => ⟨0, .nil _⟩
      | @snoc b c m hw e ihw =>
       intro hr
       obtain ⟨m1, w1⟩ := ihw hr
       obtain ⟨r, hr1, hre⟩ := List.getElem_of_mem (hL.all hl e.1)
       have ha : ∃ ra, ∃ hra : ra < L.length, L[ra] = a := by
        cases m with
        | zero => cases hw; exact ⟨r, hr1, hre⟩
        | succ m =>
         obtain ⟨z, z1, _⟩ := hw.head
         obtain ⟨ra, hra, e'⟩ := List.getElem_of_mem (hL.all hl z1.1)
         exact ⟨ra, hra, e'⟩
       obtain ⟨ra, hra, hrae⟩ := ha
       have h1 := hwpos a b m hw ra r hra hr1 hrae hre
       have h2 := hr ra hra hrae
       obtain ⟨m2, w2⟩ := ih r (by omega) r hr1 rfl c (by rw [hre]; exact e)
       rw [hre] at w2
       exact ⟨m1 + m2, w1.trans w2⟩
     have top : ∀ (j q : Nat) (hq : q < L.length), L.length - q = j → Ed g L[p] L[q] → (L[q] = k ∨ Rch g L[q] k) → ∃ m, Go.Proofs.YtafalbofjmfbnaaDoor.Eng.Way (Ed (less x g)) L[p] k m := by
      intro j
      induction j using Nat.strongRecOn with
      | _ j ihj =>
       intro q hq hj he hor
       have hqp := hposn _ _ he p q hp hq rfl rfl
       by_cases hin : (labN g L[p], labN g L[q]) ∈ x
       ·obtain ⟨d, d1, m, d2⟩ := (hxi _ _ he).1 hin
        obtain ⟨r, hr, hre⟩ := List.getElem_of_mem (hL.all hl (h.ed_lt d1).2)
        have h1 := hwpos _ _ _ d2 r q hr hq hre rfl
        refine ihj (L.length - r) (by omega) r hr rfl (by rw [hre]; exact d1) (.inr ?_)
        rw [hre]
        rcases hor with e | ⟨m', w'⟩
        ·exact ⟨m, e ▸ d2⟩
        ·exact ⟨m + 1 + m', d2.trans w'⟩
       ·have e1 : Ed (less x g) L[p] L[q] := (hed _ _).2 ⟨he, hin⟩
        rcases hor with e | ⟨m', w'⟩
        ·exact ⟨1, e ▸ .one e1⟩
        ·obtain ⟨m2, w2⟩ := low _ _ _ w' (fun r hr hre => by
          have := nodup_get hL.nodup hr hq hre
          omega)
         exact ⟨m2 + 1, .cons e1 w2⟩
     obtain ⟨q, hq, hqe⟩ := List.getElem_of_mem (hL.all hl (h.ed_lt hk).2)
     exact top _ q hq rfl (by rw [hqe]; exact hk) (.inl hqe)
   have hway : ∀ a b m, Go.Proofs.YtafalbofjmfbnaaDoor.Eng.Way (Ed g) a b m → ∃ m', Go.Proofs.YtafalbofjmfbnaaDoor.Eng.Way (Ed (less x g)) a b m' := by
    intro a b m hw
    induction hw with
    | nil => exact ⟨0, .nil _⟩
    | @snoc b c m hw e ih =>
     obtain ⟨m1, w1⟩ := ih
     obtain ⟨p, hp, hpe⟩ := List.getElem_of_mem (hL.all hl e.1)
     obtain ⟨m2, w2⟩ := key p p hp rfl c (by rw [hpe]; exact e)
     rw [hpe] at w2
     exact ⟨m1 + m2, w1.trans w2⟩
   have hneeds : ∃ l f, graph_Needs.f g [a] (-1) = some (l, f) ∧ graph_Needs.f (less x g) [a] (-1) = some (l, f) ∧ l.length ≤ 1000 := by
    unfold graph_Needs.f
    by_cases ha : ∃ k, k < g.length ∧ labN g k = a
    ·obtain ⟨k, hk, rfl⟩ := ha
     obtain ⟨d, d1, d2⟩ := reached_ok h ht hk (m := -1) (by decide) (by decide)
     obtain ⟨d', e1, e2⟩ := reached_ok h' ht' (x := k) (by omega) (m := -1) (by decide) (by decide)
     rw [less_labN] at e2
     have hW : Wi (less x g).length d' (-1) = Wi g.length d (-1) := by
      unfold Wi
      rw [hlen]
      refine List.filter_congr fun q hq => decide_eq_decide.2 ?_
      have hq' := List.mem_range.1 hq
      have hiff : 0 ≤ d'.getD q 0 ↔ 0 ≤ d.getD q 0 := by
       constructor
       ·intro h0
        obtain ⟨s, m, _, s1, w, _⟩ := e1.get (b := q) (by omega) h0
        rw [List.mem_singleton.1 s1] at w
        exact (d1.way (fun a b e => dir_lt h _ e) hk (List.mem_singleton.2 rfl) (hmono _ _ _ w)).1
       ·intro h0
        obtain ⟨s, m, _, s1, w, _⟩ := d1.get hq' h0
        rw [List.mem_singleton.1 s1] at w
        obtain ⟨m', w'⟩ := hway _ _ _ w
        exact (e1.way (fun a b e => dir_lt h' _ e) (by omega) (List.mem_singleton.2 rfl) w').1
      have hm1 : (-1 : Int) < 0 := by decide
      constructor
      ·rintro ⟨h1, _⟩; exact ⟨hiff.1 h1, .inl hm1⟩
      ·rintro ⟨h1, _⟩; exact ⟨hiff.2 h1, .inl hm1⟩
     have hlab : (Wi (less x g).length d' (-1)).map (labN (less x g)) = (Wi g.length d (-1)).map (labN g) := by
      rw [hW]
      exact List.map_congr_left fun q _ => less_labN q
     rw [hlab] at e2
     rw [d2, e2]
     exact ⟨_, _, rfl, rfl, by rw [List.length_map]; have := Wi_len g.length d (-1); omega⟩
    ·have n1 := numbers_none h (depsA g) (usersA g) (a := a) (fun k hk e => ha ⟨k, hk, e⟩)
     have n2 := numbers_none h' (depsA (less x g)) (usersA (less x g)) (a := a) (fun k hk e => ha ⟨k, by omega, by rw [← less_labN (x := x)]; exact e⟩)
     have e1 : graph_reached.f g [a] (-1) false = some ([], 9) := by
      unfold graph_reached.f
      rw [ht]
      simp only [ob_s, cb_not, cb_dec, if_true, n1]
      rfl
     have e2 : graph_reached.f (less x g) [a] (-1) false = some ([], 9) := by
      unfold graph_reached.f
      rw [ht']
      simp only [ob_s, cb_not, cb_dec, if_true, n2]
      rfl
     rw [e1, e2]
     exact ⟨_, _, rfl, rfl, by simp⟩
   obtain ⟨l, f, a1, a2, a3⟩ := hneeds
   have hless' : law4_GraphNeedlessCanGo.l0 g x 0 [] = some (less x g) := hless
   rw [x1]
   simp only [ob_s, cb_not, cb_dec, if_true, hless', y1, hy, List.length_nil, a1, a2, equalS (l := l) (by omega), cb_t, awake4]
   rfl
end
end Go.Proofs.YtafalbofjmfbnaaDoor
set_option linter.unusedVariables false
set_option linter.unusedSimpArgs false
set_option maxRecDepth 100000
set_option maxHeartbeats 4000000
namespace Go.Proofs.YtafalbofjmfbnaaDoor
open Go Go.RowKit Go.ChangeShapes Go.WideShapes Go.ChangeAt Go.Proofs.YtafalbofjmfbnaaDoor.Eng
theorem nodes_in (l : List Nd) (hx : InA T 6 [22] [.slice (.pair .str (.pair .str (.pair (.slice .str) (.pair (.slice .str) (.pair (.slice .str) (.int .i64))))))] l) : ∀ n ∈ l, szNd n := by
 have hr : reachBytes ≤ BIG := by unfold BIG; decide +kernel
 intro n hn
 have h := hx.2 n hn
 exact ⟨Nat.le_trans (show n.1.size ≤ reachBytes from h.1) hr, fun x hm => Nat.le_trans (show x.size ≤ reachBytes from h.2.2.1.2 x hm) hr, fun x hm => Nat.le_trans (show x.size ≤ reachBytes from h.2.2.2.1.2 x hm) hr, fun x hm => Nat.le_trans (show x.size ≤ reachBytes from h.2.2.2.2.1.2 x hm) hr⟩
theorem own : ownKnob Tryd.prog.godebug = none := by kernel_rfl
theorem laidOut : laidOutB Tryd.prog = true := by kernel_rfl
end Go.Proofs.YtafalbofjmfbnaaDoor
set_option linter.unusedVariables false
set_option linter.unusedSimpArgs false
set_option maxRecDepth 100000
set_option maxHeartbeats 4000000
namespace Go.Proofs.YtafalbofjmfbnaaDoor
open Go Go.RowKit Go.ChangeShapes Go.WideShapes Go.ChangeAt Go.Proofs.YtafalbofjmfbnaaDoor.Eng
theorem graphNeedlessCanGo_av (xs : List AV) (h : ShapeA T 6 [22,9] xs) : FPure Tryd.prog 13 xs (.v (.bool true)) :=
 law_typed (T := T) (m := 6) (ts := [22,9]) law4_GraphNeedlessCanGo.ok (by kernel_rfl) (fun x hx => law_NG (nodes_in x.1 hx.1) x.2) xs h
theorem graphNeedlessCanGo_lifted (os : Os) (started : os.Started) (H : Type) (enc : TypeId × Value → H) :
  ReturnsInHanded {} Tryd.checked os 13 .any (fun w args => (Rows.graphNeedlessCanGoSpec.pre enc Tryd.prog Tryd.f13 Rows.graphNeedlessCanGoRow.domain false w args ∧ laidMetH Tryd.prog Rows.graphNeedlessCanGoRow.laid w) ∧ sizedMet enc Tryd.prog Tryd.f13 (OpenSpec.ofChange Rows.graphNeedlessCanGoSpec) false w args)
   (Rows.graphNeedlessCanGoSpec.post enc Tryd.prog Tryd.f13 false true false false) := by
 refine returnsInHanded_of_change_and (C := Tryd.checked) (X := fun w _ => laidMetH Tryd.prog Rows.graphNeedlessCanGoRow.laid w) (fun _ _ _ hh h => h.of_heap hh) own started (by kernel_rfl) Tryd.func13
  (ChangeSpec.witness_shaped (enc := enc) (C := Tryd.checked) (os := os) (X := fun w _ => laidMetH Tryd.prog Rows.graphNeedlessCanGoRow.laid w) false (World.laidAll Tryd.prog os Rows.graphNeedlessCanGoRow.laid) #[.slice none 0 0, .string ByteArray.empty] 8 (World.laidAll_os _ _ _)
   (World.shaped_of_ZipB (by kernel_rfl) (by kernel_rfl)) (by kernel_rfl) (by kernel_rfl) (by kernel_rfl)
   (by rw [MakeChecks.laidMetH_plain _ _ _ (by kernel_rfl)]; exact laidMet_laidAll _ (by kernel_rfl) (by kernel_rfl))) ?_
 intro W base args ds gs before hval0 hW hcnd hsz0 hL _
 have hW' := hW
 obtain ⟨p, q, hA0, hV, rfl, hfz, hnd⟩ := hW
 have hsz : (DataW.weightsEach Tryd.prog (Tryd.f13.params.toList ++ Rows.graphNeedlessCanGoSpec.plain.varTypes Tryd.prog) (ds ++ gs)).all (· ≤ reachBytes) = true := hsz0
 have hA : DataW.TrodAll enc Tryd.prog W 0 (fun _ => true) true [22,9] args.toList ds p := hA0
 obtain ⟨rfl, rfl⟩ := trodVars_none hV
 have hlaw := law_calls (r := .any) (b0 := base) tabOK laidOut graphNeedlessCanGo_av (by decide +kernel) (by kernel_rfl) hA (fun j t v h1 h2 => hval0 j t v (by simpa using h1) (by simpa using h2)) (by rw [List.append_nil] at hsz; exact hsz)
 simp only [Array.toArray_toList] at hlaw
 refine hlaw.mono fun e W' ⟨he, bel, hback⟩ => ?_
 subst he
 obtain ⟨d1, d2, hds⟩ : ∃ d1 d2, ds = [d1, d2] := by
  obtain ⟨_, _, d1, _, _, _, _, rfl, _, _, h⟩ := trodAll_cons hA
  obtain ⟨_, _, d2, _, _, _, _, rfl, _, _, h⟩ := trodAll_cons h
  obtain ⟨_, rfl, _⟩ := trodAll_nil h
  exact ⟨d1, d2, rfl⟩
 subst hds
 exact ⟨_, rfl, _, _, _, [], _, [], hW', trodAll_mk1 (shut_bool Tryd.underlying4 _), hback, rfl, bel.frame _, fun h => by cases h⟩
theorem graphNeedlessCanGo_facts : joinedFacts Tryd.prog 13 Tryd.f13 Rows.graphNeedlessCanGoSpec Rows.graphNeedlessCanGoRow = true := by
 unfold joinedFacts
 rw [laidOut, e_make, e_lifted, e_may]
 kernel_rfl
theorem graphNeedlessCanGo_over : Rows.graphNeedlessCanGoRow.holds Tryd.pinned (OpenSpec.ofChange Rows.graphNeedlessCanGoSpec) :=
 OpenClaim.holds_of_wide 13 Tryd.f13 rfl rfl rfl rfl rfl rfl rfl ⟨rfl, rfl, rfl, rfl, rfl⟩ rfl rfl rfl rfl rfl (by kernel_rfl) Tryd.func13 graphNeedlessCanGo_facts
  (of_decide_eq_true (by kernel_rfl)) (by unfold Func.isWrapper; first | (rw [if_pos (by decide +kernel)]; kernel_rfl) | (rw [if_neg (by decide +kernel)]; exact ⟨rfl, rfl⟩))
  (fun os started H enc _ => graphNeedlessCanGo_lifted os started H enc)
theorem graphNeedlessCanGo_wf : Rows.graphNeedlessCanGoRow.wfByText (OpenSpec.ofChange Rows.graphNeedlessCanGoSpec) = true := by kernel_rfl
theorem graphNeedlessCanGo_main : Tryd.pinned.checked.prog.mainIs = some (true, "1092b4553f88940e8c582512ebac33dffa2401166445bdfd8d1fed2006d5252b".toList) := e_main
theorem graphNeedlessCanGo_looks : false = Tryd.pinned.checked.prog.looks [] := by kernel_rfl
theorem graphNeedlessCanGo_goes : false = Rows.graphNeedlessCanGoRow.goesBy Tryd.pinned.checked.prog := by kernel_rfl
theorem graphNeedlessCanGo_named : Tryd.prog.funcNamed "smithyard/smithyardlaw4.GraphNeedlessCanGo" = some 13 := by kernel_rfl
theorem graphNeedlessCanGo_noStand : ([22,9].all fun u => !Tryd.prog.wantsStandIn u) = true := by kernel_rfl
theorem graphNeedlessCanGo_holds : Rows.GraphNeedlessCanGoCardSaid :=
 Claim7.holds_tied_plain_at .later [] [.data, .pinned] true (true, "1092b4553f88940e8c582512ebac33dffa2401166445bdfd8d1fed2006d5252b") false graphNeedlessCanGo_over (fun _ h => by cases h) graphNeedlessCanGo_wf (fun _ h => by cases h) graphNeedlessCanGo_row_tie rfl ⟨rfl, rfl⟩ graphNeedlessCanGo_main rfl
  (fun f fn hf hfn => by
   obtain rfl : f = 13 := Option.some.inj (graphNeedlessCanGo_named.symm.trans hf) |>.symm
   obtain rfl : fn = Tryd.f13 := (Option.some.inj (Tryd.func13.symm.trans hfn)).symm
   exact ⟨graphNeedlessCanGo_looks, fun j t ht => by
    rw [Tryd.params13] at ht
    have hm : t ∈ [22,9] := by simpa using Array.mem_of_getElem? ht
    exact (show Tryd.prog.wantsStandIn t = false by simpa using List.all_eq_true.1 graphNeedlessCanGo_noStand t hm)⟩)
  graphNeedlessCanGo_goes
end Go.Proofs.YtafalbofjmfbnaaDoor
