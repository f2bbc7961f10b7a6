/-
  The law GraphLongestIsHeaviest hands back true for every argument, and leaves its arguments as they were. No condition.
-/
import Derived.Test.YtafalbofjmfbnaaDoorPlain2
import Derived.Test.YtafalbofjmfbnaaDoorWays
import Derived.Test.YtafalbofjmfbnaaDoorPlain1
import Derived.Test.YtafalbofjmfbnaaDoorFacts
import Derived.Test.YtafalbofjmfbnaaDoorTypB
import Derived.Test.YtafalbofjmfbnaaDoorRows
import Derived.Test.YtafalbofjmfbnaaDoorCards
import Derived.Test.YtafalbofjmfbnaaDoorTie
import Derived.ProofKit
import Derived.LaidMore
import Derived.Lay
import Derived.OpenShut
import Derived.SevenTiedAt
import Derived.Stop.Joined
set_option linter.unusedVariables false
set_option linter.unusedSimpArgs false
namespace Go.Proofs.YtafalbofjmfbnaaDoor
open Go Go.Proofs.YtafalbofjmfbnaaDoor.Eng
def wt (g : List Nd) (k : Nat) : Int := (g.getD k ND0).2.2.2.2.2
theorem wt_get {g : List Nd} {k : Nat} (h : k < g.length) : wt g k = g[k].2.2.2.2.2 := by simp [wt, List.getD, h]
theorem wt_rd {g : List Nd} {k : Nat} (h : k < g.length) : (rd ND0 g (k : Int)).2.2.2.2.2 = wt g k := by rw [rd_lt h, wt_get h]
theorem wt_in {g : List Nd} (h : Right g) {k : Nat} (hk : k < g.length) : 0 ≤ wt g k ∧ wt g k ≤ 1000000 := by
 rw [wt_get hk]
 exact (h.nd _ (List.getElem_mem hk)).2.2
theorem d_rd' {d : List Int} {k : Nat} (hk : k < d.length) : rd (0 : Int) d (k : Int) = d.getD k 0 := by
 rw [rd_lt hk]; simp [List.getD, hk]
structure Sum (g : List Nd) (adj : List (List Int)) (s : List Int) : Prop where
 len : s.length = g.length
 up : ∀ k y : Nat, k < g.length → (y : Int) ∈ adj.getD k [] → wt g k + s.getD y 0 ≤ s.getD k 0
 low : ∀ k, k < g.length → wt g k ≤ s.getD k 0
 got : ∀ k, k < g.length → s.getD k 0 = wt g k ∨ ∃ y : Nat, (y : Int) ∈ adj.getD k [] ∧ s.getD k 0 = wt g k + s.getD y 0
 top : ∀ k, k < g.length → s.getD k 0 ≤ 2000000000
structure Sm (g : List Nd) (adj : List (List Int)) (L : List Nat) (p : Nat) (s : List Int) : Prop where
 len : s.length = g.length
 zero : ∀ k, k < g.length → k ∉ L.take p → s.getD k 0 = 0
 up : ∀ k y : Nat, k ∈ L.take p → (y : Int) ∈ adj.getD k [] → wt g k + s.getD y 0 ≤ s.getD k 0
 low : ∀ k, k ∈ L.take p → wt g k ≤ s.getD k 0
 got : ∀ k, k ∈ L.take p → s.getD k 0 = wt g k ∨ ∃ y : Nat, (y : Int) ∈ adj.getD k [] ∧ s.getD k 0 = wt g k + s.getD y 0
 top : ∀ k, k < g.length → 0 ≤ s.getD k 0 ∧ s.getD k 0 ≤ 1000000 * (p : Int)
section
variable {g : List Nd} {adj : List (List Int)} {L : List Nat}
theorem sumIn (hal : adj.length = g.length) (hgl : g.length ≤ 1000) {k : Nat} (hk : k < g.length) (hl : (adj.getD k []).length ≤ 1000000) {s : List Int} (hs : s.length = g.length) (h0 : s.getD k 0 = 0)
  (hA : ∀ y ∈ adj.getD k [], ∃ u : Nat, y = u ∧ u < g.length ∧ u ≠ k) :
  ∀ (n j : Nat) (t : List Int), (adj.getD k []).length - j = n → j ≤ (adj.getD k []).length → t.length = g.length → (∀ q, q < g.length → q ≠ k → t.getD q 0 = s.getD q 0) → 0 ≤ t.getD k 0 → (∀ y : Nat, (y : Int) ∈ (adj.getD k []).take j → s.getD y 0 ≤ t.getD k 0) →
   (t.getD k 0 = 0 ∨ ∃ y : Nat, (y : Int) ∈ adj.getD k [] ∧ t.getD k 0 = s.getD y 0) →
   ∃ t', graph_net_sums.l1 (k : Int) (adj.getD k []) ((adj.getD k []).length : Int) (j : Int) t = some t' ∧ t'.length = g.length ∧ (∀ q, q < g.length → q ≠ k → t'.getD q 0 = s.getD q 0) ∧ 0 ≤ t'.getD k 0 ∧ (∀ y : Nat, (y : Int) ∈ adj.getD k [] → s.getD y 0 ≤ t'.getD k 0) ∧
    (t'.getD k 0 = 0 ∨ ∃ y : Nat, (y : Int) ∈ adj.getD k [] ∧ t'.getD k 0 = s.getD y 0) := by
 intro n
 induction n with
 | zero =>
  intro j t hn hj ht h1 h2 h3 h4
  rw [List.take_of_length_le (by clear h4; omega)] at h3
  refine ⟨t, loopX_done ?_, ht, h1, h2, h3, h4⟩
  simp only [graph_net_sums.s1, cb_dec]
  rw [if_neg (by clear h4; omega)]
 | succ n ih =>
  intro j t hn hj ht h1 h2 h3 h4
  have hlt : j < (adj.getD k []).length := by clear h4; omega
  obtain ⟨u, hu1, hu2, hu3⟩ := hA _ (List.getElem_mem hlt)
  have hm : (u : Int) ∈ adj.getD k [] := by rw [← hu1]; exact List.getElem_mem hlt
  have hn1 : (adj.getD k []).length - (j + 1) = n := by clear h4; omega
  have hj1 : j + 1 ≤ (adj.getD k []).length := by clear h4; omega
  have htu := h1 u hu2 hu3
  have hkt : k < t.length := by clear h4; omega
  obtain ⟨t', g1, g2⟩ := ih (j + 1) (t.set k (max (t.getD k 0) (t.getD u 0))) hn1 hj1 (by simpa using ht) (fun q hq hqk => by
    rw [getD_set _ _ _ _ _ hkt, if_neg hqk]; exact h1 q hq hqk) (by
    rw [getD_set _ _ _ _ _ hkt, if_pos rfl]; clear h4; omega) (fun y hy => by
    rw [getD_set _ _ _ _ _ hkt, if_pos rfl]
    rw [List.take_succ_eq_append_getElem hlt, List.mem_append, List.mem_singleton, hu1] at hy
    rcases hy with hy | hy
    ·have := h3 y hy; clear h4; omega
    ·have : y = u := by clear h4; omega
     subst this; clear h4; omega) (by
    rw [getD_set _ _ _ _ _ hkt, if_pos rfl]
    by_cases hc : t.getD k 0 ≤ t.getD u 0
    ·rw [Int.max_eq_right hc]
     exact .inr ⟨u, hm, htu⟩
    ·rw [Int.max_eq_left (by clear h4; omega)]
     exact h4)
  refine ⟨t', (loopX_next ?_).trans g1, g2⟩
  clear h4
  simp only [graph_net_sums.s1, cb_dec, rd_lt hlt, hu1, Int.toNat_natCast]
  rw [if_pos (by omega), ck_pos (by omega), ck_pos (by omega), ck_pos (by omega), ck_pos (by omega), ck_pos (by omega), ck_pos (by omega), ck_pos (by omega), ck_in (by omega) (by omega)]
  rfl
theorem sumLoop (h : Right g) (dp us : List (List Int)) (hal : adj.length = g.length) (hL : L.Nodup) (hLt : ∀ x ∈ L, x < g.length) (hl : ∀ k, k < g.length → (adj.getD k []).length ≤ 1000000)
  (hA : ∀ p : Nat, ∀ hp : p < L.length, ∀ y ∈ adj.getD L[p] [], ∃ u : Nat, y = u ∧ u ∈ L.take p) :
  ∀ (n p : Nat) (s : List Int), L.length - p = n → p ≤ L.length → Sm g adj L p s → ∃ s', graph_net_sums.l0 (some (g, (dp, us))) adj (ints L) ((ints L).length : Int) (p : Int) s = some s' ∧ Sm g adj L L.length s' := by
 have hgl := h.len
 have hLl := nodup_len hL hLt
 intro n
 induction n with
 | zero =>
  intro p s hn hp hs
  have e : p = L.length := by omega
  subst e
  refine ⟨s, loopX_done ?_, hs⟩
  simp only [graph_net_sums.s0, cb_dec, List.length_map]
  rw [if_neg (by omega)]
 | succ n ih =>
  intro p s hn hp hs
  have hlt : p < L.length := by omega
  have hk := hLt _ (List.getElem_mem hlt)
  have hnot : L[p] ∉ L.take p := fun hm => by
   obtain ⟨q, hq, he⟩ := List.getElem_of_mem hm
   have hqp : q < p := by have := hq; simp at this; omega
   rw [List.getElem_take] at he
   have := nodup_get hL (by omega : q < L.length) hlt he
   omega
  have hsl := hs.len
  have hAk : ∀ y ∈ adj.getD L[p] [], ∃ u : Nat, y = u ∧ u < g.length ∧ u ≠ L[p] := fun y hy => by
   obtain ⟨u, h1, h2⟩ := hA p hlt y hy
   exact ⟨u, h1, hLt u (List.mem_of_mem_take h2), fun e => hnot (e ▸ h2)⟩
  have h0 := hs.zero _ hk hnot
  obtain ⟨t, t1, t2, t3, t4, t5, t6⟩ := sumIn hal hgl hk (hl _ hk) hsl h0 hAk _ 0 s rfl (Nat.zero_le _) hsl (fun q _ _ => rfl) (by omega) (fun y hy => by simp at hy) (.inl h0)
  rw [show ((0 : Nat) : Int) = 0 from rfl] at t1
  have hw := wt_in h hk
  have hg : ∀ q, (t.set L[p] (t.getD L[p] 0 + wt g L[p])).getD q 0 = if q = L[p] then t.getD L[p] 0 + wt g L[p] else t.getD q 0 := fun q => getD_set _ _ _ _ _ (by omega)
  have hgo : ∀ q, q < g.length → q ≠ L[p] → (t.set L[p] (t.getD L[p] 0 + wt g L[p])).getD q 0 = s.getD q 0 := fun q hq hqk => by rw [hg, if_neg hqk, t3 q hq hqk]
  have ht : ∀ q, q ∈ L.take (p + 1) ↔ q ∈ L.take p ∨ q = L[p] := fun q => by
   rw [List.take_succ_eq_append_getElem hlt, List.mem_append, List.mem_singleton]
  have hadj : ∀ q y : Nat, q ∈ L.take p → (y : Int) ∈ adj.getD q [] → y ∈ L.take p := fun q y hq hy => by
   obtain ⟨r, hr, he⟩ := List.getElem_of_mem hq
   have hrp : r < p := by have := hr; simp at this; omega
   rw [List.getElem_take] at he
   obtain ⟨u, h1, h2⟩ := hA r (by omega) (y : Int) (by rw [he]; exact hy)
   have : y = u := by omega
   subst this
   obtain ⟨r', hr', he'⟩ := List.getElem_of_mem h2
   have hrp' : r' < r := by have := hr'; simp at this; omega
   rw [List.getElem_take] at he'
   rw [← he']
   exact List.mem_take_iff_getElem.2 ⟨r', by omega, rfl⟩
  have hlt2 : ∀ q, q ∈ L.take p → q < g.length ∧ q ≠ L[p] := fun q hq => ⟨hLt q (List.mem_of_mem_take hq), fun e => hnot (e ▸ hq)⟩
  have htop : t.getD L[p] 0 ≤ 1000000 * (p : Int) := by
   rcases t6 with t6 | ⟨y, y1, y2⟩
   ·omega
   ·obtain ⟨u, u1, u2, u3⟩ := hAk _ y1
    have : y = u := by omega
    subst this
    have := hs.top y u2
    omega
  have hs' : Sm g adj L (p + 1) (t.set L[p] (t.getD L[p] 0 + wt g L[p])) := by
   refine ⟨by simpa using t2, fun q hq hqn => ?_, fun q y hq hy => ?_, fun q hq => ?_, fun q hq => ?_, fun q hq => ?_⟩
   ·rw [hgo q hq (fun e => hqn ((ht q).2 (.inr e)))]
    exact hs.zero q hq (fun hm => hqn ((ht q).2 (.inl hm)))
   ·rcases (ht q).1 hq with hq | hq
    ·have h1 := hlt2 q hq
     have h2 := hlt2 y (hadj q y hq hy)
     rw [hgo q h1.1 h1.2, hgo y h2.1 h2.2]
     exact hs.up q y hq hy
    ·subst hq
     obtain ⟨u, u1, u2, u3⟩ := hAk _ hy
     have : y = u := by omega
     subst this
     rw [hgo y u2 u3, hg, if_pos rfl]
     have := t5 y hy
     omega
   ·rcases (ht q).1 hq with hq | hq
    ·have h1 := hlt2 q hq
     rw [hgo q h1.1 h1.2]
     exact hs.low q hq
    ·subst hq
     rw [hg, if_pos rfl]; omega
   ·rcases (ht q).1 hq with hq | hq
    ·have h1 := hlt2 q hq
     rw [hgo q h1.1 h1.2]
     rcases hs.got q hq with h | ⟨y, y1, y2⟩
     ·exact .inl h
     ·have h2 := hlt2 y (hadj q y hq y1)
      exact .inr ⟨y, y1, by rw [hgo y h2.1 h2.2]; exact y2⟩
    ·subst hq
     rw [hg, if_pos rfl]
     rcases t6 with t6 | ⟨y, y1, y2⟩
     ·left; omega
     ·right
      obtain ⟨u, u1, u2, u3⟩ := hAk _ y1
      have : y = u := by omega
      subst this
      exact ⟨y, y1, by rw [hgo y u2 u3]; omega⟩
   ·by_cases hqk : q = L[p]
    ·rw [hqk, hg, if_pos rfl]
     omega
    ·rw [hgo q hq hqk]
     have := hs.top q hq
     omega
  obtain ⟨s', k1, k2⟩ := ih (p + 1) _ (by clear t6; omega) (by clear t6; omega) hs'
  refine ⟨s', (loopX_next ?_).trans k1, k2⟩
  have hil : p < (ints L).length := by simpa using hlt
  have e : rd (0 : Int) (ints L) (p : Int) = (L[p] : Int) := by rw [rd_lt hil]; simp [ints]
  have ea : rd ([] : List Int) adj ((L[p] : Nat) : Int) = adj.getD L[p] [] := by
   rw [rd_lt (by omega : L[p] < adj.length)]
   simp [List.getD, hal, hk]
  clear t6
  simp only [graph_net_sums.s0, cb_dec, e, ea, t1, ob_s, Option.isSome_some, Option.getD_some, wt_rd hk, Int.toNat_natCast, List.length_map]
  rw [if_pos (by omega), ck_pos (by omega), ck_pos (by omega), ck_pos (by omega), ck_pos (by omega), ck_pos trivial, ck_pos (by omega), ck_in (by omega) (by omega), ck_pos (by omega), ck_pos (by omega), ck_in (by omega) (by omega)]
  rfl
theorem sums_eq (h : Right g) (dp us : List (List Int)) (hal : adj.length = g.length) (hL : L.Nodup) (hLt : ∀ x ∈ L, x < g.length) (hall : ∀ k, k < g.length → k ∈ L) (hl : ∀ k, k < g.length → (adj.getD k []).length ≤ 1000000)
  (hA : ∀ p : Nat, ∀ hp : p < L.length, ∀ y ∈ adj.getD L[p] [], ∃ u : Nat, y = u ∧ u ∈ L.take p) : ∃ s, graph_net_sums.f (some (g, (dp, us))) (ints L) adj = some s ∧ Sum g adj s := by
 have hgl := h.len
 have hLl := nodup_len hL hLt
 obtain ⟨s, s1, s2⟩ := sumLoop h dp us hal hL hLt hl hA L.length 0 (List.replicate g.length 0) (by omega) (by omega)
  ⟨by simp, fun k hk _ => by rw [List.getD, List.getElem?_replicate, if_pos hk]; rfl, fun k y hk => by simp at hk, fun k hk => by simp at hk, fun k hk => by simp at hk, fun k hk => by
   rw [List.getD, List.getElem?_replicate, if_pos hk]; simp⟩
 have ht : ∀ k, k < g.length → k ∈ L.take L.length := fun k hk => by rw [List.take_length]; exact hall k hk
 refine ⟨s, ?_, s2.len, fun k y hk => s2.up k y (ht k hk), fun k hk => s2.low k (ht k hk), fun k hk => s2.got k (ht k hk), fun k hk => by have := s2.top k hk; omega⟩
 unfold graph_net_sums.f
 rw [show ((0 : Nat) : Int) = 0 from rfl] at s1
 simp only [Option.isSome_some, Option.getD_some, Int.toNat_natCast, ck_tr, s1, ob_s]
 rw [ck_pos (by omega)]
theorem heaviest_eq {s : List Int} {a : List Nat} (ha : 0 < a.length) (hal : a.length ≤ 1000000) (hlt : ∀ x ∈ a, x < s.length) : ∃ k : Nat, k ∈ a ∧ graph_Longest_1.f (ints a) s = some (k : Int) ∧ ∀ y ∈ a, s.getD y 0 ≤ s.getD k 0 := by
 have hil : ∀ {i : Nat}, i < a.length → i < (ints a).length := fun h => by simpa using h
 have er : ∀ {i : Nat} (h : i < a.length), rd (0 : Int) (ints a) (i : Int) = (a[i] : Int) := fun h => by rw [rd_lt (hil h)]; simp [ints]
 have go : ∀ (n i k : Nat), a.length - i = n → i ≤ a.length → k ∈ a → (∀ y ∈ a.take i, s.getD y 0 ≤ s.getD k 0) → ∃ k' : Nat, k' ∈ a ∧ graph_Longest_1.l0 s (ints a) ((ints a).length : Int) (k : Int) (i : Int) = some (k' : Int) ∧ ∀ y ∈ a, s.getD y 0 ≤ s.getD k' 0 := by
  intro n
  induction n with
  | zero =>
   intro i k hn hi hk hm
   rw [List.take_of_length_le (by omega)] at hm
   refine ⟨k, hk, loopX_done ?_, hm⟩
   simp only [graph_Longest_1.s0, cb_dec, List.length_map]
   rw [if_neg (by omega)]
  | succ n ih =>
   intro i k hn hi hk hm
   have hi' : i < a.length := by omega
   have hy := hlt _ (List.getElem_mem hi')
   have hkl := hlt k hk
   have ht : ∀ y, y ∈ a.take (i + 1) ↔ y ∈ a.take i ∨ y = a[i] := fun y => by
    rw [List.take_succ_eq_append_getElem hi', List.mem_append, List.mem_singleton]
   by_cases hc : s.getD k 0 < s.getD a[i] 0
   ·obtain ⟨k', h1, h2, h3⟩ := ih (i + 1) a[i] (by omega) (by omega) (List.getElem_mem hi') (fun y hy => by
     rcases (ht y).1 hy with hy | hy
     ·have := hm y hy; omega
     ·rw [hy]; omega)
    refine ⟨k', h1, (loopX_next ?_).trans h2, h3⟩
    simp only [graph_Longest_1.s0, cb_dec, List.length_map, er hi', d_rd' hy, d_rd' hkl]
    rw [if_pos (by omega), ck_pos (by omega), ck_pos (by omega), ck_pos (by omega), if_pos hc, ck_in (by omega) (by omega)]
    rfl
   ·obtain ⟨k', h1, h2, h3⟩ := ih (i + 1) k (by omega) (by omega) hk (fun y hy => by
     rcases (ht y).1 hy with hy | hy
     ·exact hm y hy
     ·rw [hy]; omega)
    refine ⟨k', h1, (loopX_next ?_).trans h2, h3⟩
    simp only [graph_Longest_1.s0, cb_dec, List.length_map, er hi', d_rd' hy, d_rd' hkl]
    rw [if_pos (by omega), ck_pos (by omega), ck_pos (by omega), ck_pos (by omega), if_neg hc, ck_in (by omega) (by omega)]
    rfl
 obtain ⟨k, h1, h2, h3⟩ := go a.length 0 a[0] (by omega) (by omega) (List.getElem_mem ha) (fun y hy => by simp at hy)
 refine ⟨k, h1, ?_, h3⟩
 unfold graph_Longest_1.f
 have e0 := er ha
 rw [show ((0 : Nat) : Int) = 0 from rfl] at h2 e0
 simp only [e0, h2, ob_s]
 rw [ck_pos (by simp only [List.length_map]; omega)]
end
end Go.Proofs.YtafalbofjmfbnaaDoor
set_option linter.unusedVariables false
set_option linter.unusedSimpArgs false
namespace Go.Proofs.YtafalbofjmfbnaaDoor
open Go Go.Proofs.YtafalbofjmfbnaaDoor.Eng
def mpX {C R R' : Type} (φ : R → R') : Option (C ⊕ R) → Option (C ⊕ R')
 | none => none
 | some (.inl y) => some (.inl y)
 | some (.inr r) => some (.inr (φ r))
theorem mpX_ck {C R R' : Type} {φ : R → R'} {c : Prop} {a : Option (C ⊕ R)} {b : Option (C ⊕ R')} (h : b = mpX φ a) : ck c b = mpX φ (ck c a) := by
 by_cases hc : c
 ·rw [ck_pos hc, ck_pos hc]; exact h
 ·unfold ck; rw [if_neg hc, if_neg hc]; rfl
theorem mpX_cb {C R R' : Type} {φ : R → R'} {c : Bool} {a a' : Option (C ⊕ R)} {b b' : Option (C ⊕ R')} (h : b = mpX φ a) (h' : b' = mpX φ a') : cb c b b' = mpX φ (cb c a a') := by
 cases c
 ·exact h'
 ·exact h
theorem mpX_ob {C R R' E : Type} {φ : R → R'} {r : Option E} {a : E → Option (C ⊕ R)} {b : E → Option (C ⊕ R')} (h : ∀ x, b x = mpX φ (a x)) : ob r b = mpX φ (ob r a) := by
 cases r
 ·rfl
 ·exact h _
theorem loopX_phi {X R R' : Type} {f : X → Option (X ⊕ R)} {f' : X → Option (X ⊕ R')} (φ : R → R') (hf : ∀ x, f' x = mpX φ (f x)) {x : X} {r' : R'} (h : loopX f' x = some r') : ∃ r, loopX f x = some r ∧ φ r = r' := by
 obtain ⟨n, hn⟩ := loopX_some h
 clear h
 induction n generalizing x with
 | zero => cases hn
 | succ n ih =>
  simp only [loopN, hf] at hn
  cases hx : f x with
  | none => rw [hx] at hn; cases hn
  | some v =>
   rw [hx] at hn
   cases v with
   | inl y =>
    obtain ⟨r, h1, h2⟩ := ih hn
    exact ⟨r, (loopX_next hx).trans h1, h2⟩
   | inr r =>
    cases hn
    exact ⟨r, loopX_done hx, rfl⟩
section
variable {g : List Nd}
def phiO {A B : Type} : (Bool × A) ⊕ B → (List Int × Bool) ⊕ B
 | .inl a => .inl ([], a.1)
 | .inr b => .inr b
theorem order_o_eq {N : Option (List Nd × (List (List Int) × List (List Int)))} {z : List Int × Bool} (h : graph_net_order.f N = some z) : graph_net_order_o.f N = some z := by
 unfold graph_net_order.f at h
 unfold graph_net_order_o.f
 obtain ⟨c1, h⟩ := ck_some h
 rw [ck_pos c1]
 simp only at h ⊢
 obtain ⟨c2, h⟩ := ck_some h
 rw [ck_pos c2]
 obtain ⟨c3, h⟩ := ck_some h
 rw [ck_pos c3]
 obtain ⟨l, h1, h⟩ := ob_some h
 have h1' : graph_net_order_o.l0 (N.getD ([], ([], []))).2.1 ((N.getD ([], ([], []))).2.1.length : Int) 0 (List.replicate ((N.getD ([], ([], []))).1.length : Int).toNat 0) = some l := h1
 rw [h1', ob_s]
 obtain ⟨c4, h⟩ := ck_some h
 rw [ck_pos c4]
 obtain ⟨c5, h⟩ := ck_some h
 rw [ck_pos c5]
 obtain ⟨r, h2, h⟩ := ob_some h
 obtain ⟨r', h3, h4⟩ := loopX_phi (f := fun x : List Int × (List Bool × List Int) => graph_net_order_o.s1 N x.1 x.2.1 x.2.2) phiO (fun x => by
  have e2 : ∀ a b c d, graph_net_order.l2 a b c d = graph_net_order_o.l2 a b c d := fun _ _ _ _ => rfl
  have e3 : ∀ a b c d e i j, graph_net_order.l3 a b c d e i j = graph_net_order_o.l3 a b c d e i j := fun _ _ _ _ _ _ _ => rfl
  simp only [graph_net_order.s1, graph_net_order_o.s1, e2, e3]
  repeat' first | apply mpX_ck | apply mpX_cb | (apply mpX_ob; intro _) | rfl) h2
 have h3' : graph_net_order_o.l1 N l (List.replicate ((N.getD ([], ([], []))).1.length : Int).toNat false) [] = some r' := h3
 rw [h3', ob_s]
 cases r' with
 | inl a =>
  have : r = .inl ([], a.1) := h4.symm
  subst this
  exact h
 | inr b =>
  have : r = .inr b := h4.symm
  subst this
  exact h
end
end Go.Proofs.YtafalbofjmfbnaaDoor
set_option linter.unusedVariables false
set_option linter.unusedSimpArgs false
namespace Go.Proofs.YtafalbofjmfbnaaDoor
open Go Go.Proofs.YtafalbofjmfbnaaDoor.Eng
section
variable {g : List Nd}
theorem tree_eq (hs : ∀ n ∈ g, szNd n) : (∃ f : Int, f ≠ 0 ∧ graph_tree.f g = some (none, ([], f)) ∧ graph_tree_o.f g = some (none, ([], f))) ∨ (Right g ∧ ∃ L, Ord g L ∧ L.length = g.length ∧ graph_tree.f g = some (net g, (ints L, 0)) ∧ graph_tree_o.f g = some (net g, (ints L, 0))) := by
 unfold graph_tree.f graph_tree_o.f
 rcases open_eq hs with ⟨f, h1, h2⟩ | ⟨h, h2⟩
 ·rw [h2]
  simp only [ob_s, cb_not, cb_dec, if_neg h1]
  exact .inl ⟨f, h1, rfl, rfl⟩
 ·rw [h2]
  simp only [ob_s, cb_not, cb_dec, if_true]
  rcases order_eq h with ⟨R, r1, r2, r3⟩ | ⟨L, r1, r2, r3⟩
  ·left
   rw [r3, order_o_eq r3]
   exact ⟨17, by decide, rfl, rfl⟩
  ·rw [r3, order_o_eq r3]
   exact .inr ⟨h, L, r1, r2, rfl, rfl⟩
theorem deps_getD {k : Nat} : (depsA g).getD k [] = D g k := rfl
theorem users_getD {k : Nat} (hk : k < g.length) : (usersA g).getD k [] = U g g.length k := by simp [usersA, List.getD, hk]
theorem sums_deps (h : Right g) {L : List Nat} (ho : Ord g L) (hl : L.length = g.length) : ∃ s, graph_net_sums.f (net g) (ints L) (depsA g) = some s ∧ Sum g (depsA g) s :=
 sums_eq h _ _ (by simp [depsA]) ho.nodup ho.lt (fun k hk => ho.all hl hk) (fun k hk => by have := D_len h hk; rw [deps_getD]; omega) (fun p hp y hy => by
  rw [deps_getD] at hy
  obtain ⟨u, u1, u2⟩ := h.D_mem (ho.lt _ (List.getElem_mem hp)) hy
  subst u1
  exact ⟨u, rfl, ho.dep p hp u ⟨ho.lt _ (List.getElem_mem hp), hy⟩⟩)
theorem sums_users (h : Right g) {L : List Nat} (ho : Ord g L) (hl : L.length = g.length) : ∃ s, graph_net_sums.f (net g) (ints L.reverse) (usersA g) = some s ∧ Sum g (usersA g) s :=
 sums_eq h _ _ (by simp [usersA]) (by rw [List.Nodup, List.pairwise_reverse]; exact ho.nodup.imp fun h => Ne.symm h) (fun x hx => ho.lt x (List.mem_reverse.1 hx)) (fun k hk => List.mem_reverse.2 (ho.all hl hk)) (fun k hk => by
  rw [users_getD hk]; have := U_len g g.length k; have := h.len; omega) (fun p hp y hy => by
  have hpl : p < L.length := by simpa using hp
  have hk : L.reverse[p] < g.length := ho.lt _ (List.mem_reverse.1 (List.getElem_mem hp))
  rw [users_getD hk] at hy
  obtain ⟨u, u1, u2, u3⟩ := U_mem.1 hy
  refine ⟨u, u1, ?_⟩
  obtain ⟨q, hq, hqe⟩ := List.getElem_of_mem (ho.all hl u2)
  have he : Ed g L[q] L.reverse[p] := by rw [hqe]; exact ⟨u2, u3⟩
  have hm := ho.dep q hq _ he
  obtain ⟨r, hr, hre⟩ := List.getElem_of_mem hm
  have hrq : r < q := by have := hr; simp at this; omega
  rw [List.getElem_take, List.getElem_reverse] at hre
  have hrp := nodup_get ho.nodup (by omega : r < L.length) (by omega) hre
  refine List.mem_take_iff_getElem.2 ⟨L.length - 1 - q, by simp; omega, ?_⟩
  rw [List.getElem_reverse]
  have : L.length - 1 - (L.length - 1 - q) = q := by omega
  simp only [this, hqe])
inductive Hv (g : List Nd) (s : List Int) : List Nat → Prop
 | one (a : Nat) : a < g.length → D g a = [] → s.getD a 0 = wt g a → Hv g s [a]
 | cons (a b : Nat) (V : List Nat) : Ed g a b → s.getD a 0 = wt g a + s.getD b 0 → Hv g s (b :: V) → Hv g s (a :: b :: V)
theorem ints_toNat : ∀ {l : List Int}, (∀ x ∈ l, ∃ u : Nat, x = u) → l = ints (l.map Int.toNat)
 | [], _ => rfl
 | x :: l, h => by
  obtain ⟨u, rfl⟩ := h x (List.mem_cons_self ..)
  have := ints_toNat (fun y hy => h y (List.mem_cons_of_mem _ hy))
  simp only [ints, List.map_cons, Int.toNat_natCast] at this ⊢
  rw [← this]
theorem pathLoop (h : Right g) {L : List Nat} (ho : Ord g L) (hl : L.length = g.length) {s : List Int} (hs : Sum g (depsA g) s) (st : List Int) : ∀ (p : Nat) (hp : p < L.length) (O : List Nat), O.length + p ≤ 5000 →
  ∃ V, Hv g s (L[p] :: V) ∧ graph_Longest.l1 (net g) ((L[p] : Nat) : Int) s st (ints O ++ [((L[p] : Nat) : Int)]) = some (s, st, ints O ++ ints (L[p] :: V)) := by
 have hgl := h.len
 have hdl : (depsA g).length = g.length := by simp [depsA]
 intro p
 induction p using Nat.strongRecOn with
 | _ p ih =>
  intro hp O hO
  have hk := ho.lt _ (List.getElem_mem hp)
  by_cases hd : D g L[p] = []
  ·refine ⟨[], .one _ hk hd ?_, loopX_done ?_⟩
   ·rcases hs.got _ hk with h1 | ⟨y, y1, _⟩
    ·exact h1
    ·rw [deps_getD, hd] at y1; cases y1
   ·simp only [graph_Longest.s1, cb_dec, Option.isSome_some, Option.getD_some, ck_tr, deps_rd hk, hd]
    rw [ck_pos (by omega), if_neg (by decide)]
    simp [ints]
  ·have hDl := D_len h hk
   have hDn := ints_toNat (l := D g L[p]) (fun x hx => by obtain ⟨u, h1, _⟩ := h.D_mem hk hx; exact ⟨u, h1⟩)
   have hpos : 0 < (D g L[p]).length := List.length_pos_iff.2 hd
   have hmem : ∀ x : Nat, x ∈ (D g L[p]).map Int.toNat → (x : Int) ∈ D g L[p] := fun x hx => by
    obtain ⟨y, y1, y2⟩ := List.mem_map.1 hx
    obtain ⟨u, u1, _⟩ := h.D_mem hk y1
    subst u1
    have : x = u := by rw [← y2]; exact Int.toNat_natCast u
    rw [this]; exact y1
   obtain ⟨b, b1, b2, b3⟩ := heaviest_eq (s := s) (a := (D g L[p]).map Int.toNat) (by simpa using hpos) (by simp; omega) (fun x hx => by
    obtain ⟨u, u1, u2⟩ := h.D_mem hk (hmem x hx)
    have : x = u := by omega
    rw [hs.len]; omega)
   rw [← hDn] at b2
   have hbm := hmem b b1
   have hE : Ed g L[p] b := ⟨hk, hbm⟩
   have hbl := (h.ed_lt hE).2
   have hsum : s.getD L[p] 0 = wt g L[p] + s.getD b 0 := by
    have h1 := hs.up _ b hk hbm
    have h2 := hs.low b hbl
    have h3 := wt_in h hbl
    rcases hs.got _ hk with h4 | ⟨y, y1, y2⟩
    ·omega
    ·have : y ∈ (D g L[p]).map Int.toNat := List.mem_map.2 ⟨(y : Int), y1, Int.toNat_natCast y⟩
     have := b3 y this
     omega
   obtain ⟨q, hq, hqe⟩ := List.getElem_of_mem (ho.dep p hp b hE)
   have hqp : q < p := by have := hq; simp at this; omega
   rw [List.getElem_take] at hqe
   subst hqe
   have hadd : ints O ++ [((L[p] : Nat) : Int)] = ints (O ++ [L[p]]) := by simp [ints]
   obtain ⟨V, v1, v2⟩ := ih q hqp (by omega) (O ++ [L[p]]) (by simp; omega)
   refine ⟨_ :: V, .cons _ _ _ hE hsum v1, (loopX_next (x' := (((L[q]'(by omega) : Nat) : Int), s, st, ints (O ++ [L[p]]) ++ [((L[q]'(by omega) : Nat) : Int)])) ?_).trans (v2.trans ?_)⟩
   ·simp only [graph_Longest.s1, cb_dec, Option.isSome_some, Option.getD_some, ck_tr, deps_rd hk, b2, ob_s, ← hadd]
    rw [ck_pos (by omega), if_pos (by omega), ck_pos (by omega), ck_pos (by simp only [List.length_append, List.length_map, List.length_cons, List.length_nil]; omega)]
   ·simp [ints]
noncomputable def St (g : List Nd) (i : Nat) : List Nat := (List.range i).filter fun k => decide (U g g.length k = [])
theorem mem_St {i k : Nat} : k ∈ St g i ↔ k < i ∧ U g g.length k = [] := by
 unfold St
 rw [List.mem_filter, List.mem_range, decide_eq_true_eq]
theorem St_succ (i : Nat) : St g (i + 1) = St g i ++ (if U g g.length i = [] then [i] else []) := by
 unfold St
 rw [List.range_succ, List.filter_append]
 congr 1
 by_cases h : U g g.length i = []
 ·rw [if_pos h, List.filter_cons, if_pos (decide_eq_true h)]; rfl
 ·rw [if_neg h, List.filter_cons, if_neg (by simpa only [decide_eq_true_eq] using h)]; rfl
theorem St_len (i : Nat) : (St g i).length ≤ i := by
 have := List.length_filter_le (fun k => decide (U g g.length k = [])) (List.range i)
 rw [List.length_range] at this
 exact this
theorem startLoop (h : Right g) (s : List Int) : ∀ (n i : Nat), g.length - i = n → i ≤ g.length → graph_Longest.l0 (usersA g) ((usersA g).length : Int) (i : Int) s (ints (St g i)) = some (s, ints (St g g.length)) := by
 have hgl := h.len
 have hul : (usersA g).length = g.length := by simp [usersA]
 intro n
 induction n with
 | zero =>
  intro i hn hi
  have e : i = g.length := by omega
  subst e
  refine loopX_done ?_
  simp only [graph_Longest.s0, cb_dec]
  rw [if_neg (by omega)]
 | succ n ih =>
  intro i hn hi
  have hlt : i < g.length := by omega
  have hl := St_len (g := g) i
  have hUl := U_len g g.length i
  have er : rd ([] : List Int) (usersA g) (i : Int) = U g g.length i := by
   rw [rd_lt (by rw [hul]; exact hlt)]; simp [usersA]
  have hadd : ints (St g i) ++ [(i : Int)] = ints (St g i ++ [i]) := by simp [ints]
  refine (loopX_next ?_).trans (ih (i + 1) (by omega) (by omega))
  simp only [graph_Longest.s0, cb_dec, er, St_succ]
  rw [if_pos (by omega), ck_pos (by omega)]
  by_cases hc : U g g.length i = []
  ·rw [if_pos (by rw [hc]; rfl), ck_pos (by simp only [List.length_map, List.length_cons, List.length_nil]; omega), ck_in (by omega) (by omega), if_pos hc, hadd]; rfl
  ·have : 0 < (U g g.length i).length := List.length_pos_iff.2 hc
   rw [if_neg (by omega), ck_in (by omega) (by omega), if_neg hc, List.append_nil]; rfl
theorem noU (h : Right g) {k : Nat} : U g g.length k = [] ↔ ∀ u, ¬ Ed g u k := by
 constructor
 ·intro he u hu
  have : (u : Int) ∈ U g g.length k := U_mem.2 ⟨u, rfl, hu.1, hu.2⟩
  rw [he] at this; cases this
 ·intro hn
  refine List.eq_nil_iff_forall_not_mem.2 fun x hx => ?_
  obtain ⟨q, _, h2, h3⟩ := U_mem.1 hx
  exact hn q ⟨h2, h3⟩
theorem Hv.len {s : List Int} (h : Right g) {L : List Nat} (ho : Ord g L) (hl : L.length = g.length) {P : List Nat} (hv : Hv g s P) : ∀ p : Nat, ∀ hp : p < L.length, P[0]? = some L[p] → P.length ≤ p + 1 := by
 induction hv with
 | one a _ _ _ => intro p hp _; simp
 | cons a b V he _ _ ih =>
  intro p hp ha
  have ha' : a = L[p] := by simpa using ha
  subst ha'
  obtain ⟨q, hq, hqe⟩ := List.getElem_of_mem (ho.dep p hp b he)
  have hqp : q < p := by have := hq; simp at this; omega
  rw [List.getElem_take] at hqe
  have := ih q (by omega) (by rw [hqe]; rfl)
  simp only [List.length_cons] at this ⊢
  omega
theorem Longest_eq (h : Right g) {L : List Nat} (ho : Ord g L) (hl : L.length = g.length) (ht : graph_tree.f g = some (net g, (ints L, 0))) (hne : 0 < g.length) :
  ∃ s a V, Sum g (depsA g) s ∧ Hv g s (a :: V) ∧ (∀ u, ¬ Ed g u a) ∧ (∀ k, k < g.length → (∀ u, ¬ Ed g u k) → s.getD k 0 ≤ s.getD a 0) ∧ (a :: V).length ≤ g.length ∧ (∀ x ∈ a :: V, x < g.length) ∧
   graph_Longest.f g = some ((a :: V).map (labN g), (s.getD a 0, 0)) := by
 have hgl := h.len
 obtain ⟨s, s1, s2⟩ := sums_deps h ho hl
 have hStl := St_len (g := g) g.length
 have hst : 0 < (St g g.length).length := by
  have hlast : L.length - 1 < L.length := by omega
  have : L[L.length - 1] ∈ St g g.length := mem_St.2 ⟨ho.lt _ (List.getElem_mem hlast), (noU h).2 fun u hu => by
   obtain ⟨q, hq, hqe⟩ := List.getElem_of_mem (ho.all hl hu.1)
   obtain ⟨r, hr, hre⟩ := List.getElem_of_mem (ho.dep q hq L[L.length - 1] (by rw [hqe]; exact hu))
   have hrq : r < q := by have := hr; simp at this; omega
   rw [List.getElem_take] at hre
   have := nodup_get ho.nodup (by omega : r < L.length) hlast hre
   omega⟩
  exact List.length_pos_of_mem this
 obtain ⟨a, a1, a2, a3⟩ := heaviest_eq (s := s) (a := St g g.length) hst (by omega) (fun x hx => by rw [s2.len]; exact (mem_St.1 hx).1)
 have ha := mem_St.1 a1
 obtain ⟨p, hp, hpe⟩ := List.getElem_of_mem (ho.all hl ha.1)
 subst hpe
 obtain ⟨V, v1, v2⟩ := pathLoop h ho hl s2 (ints (St g g.length)) p hp [] (by simp; omega)
 have v2' : graph_Longest.l1 (net g) ((L[p] : Nat) : Int) s (ints (St g g.length)) [((L[p] : Nat) : Int)] = some (s, ints (St g g.length), ints (L[p] :: V)) := v2
 have hlen := v1.len h ho hl p hp rfl
 have hlt : ∀ {P : List Nat}, Hv g s P → ∀ x ∈ P, x < g.length := fun hv => by
  induction hv with
  | one a h1 _ _ => intro x hx; rw [List.mem_singleton.1 hx]; exact h1
  | cons a b V he _ _ ih =>
   intro x hx
   rcases List.mem_cons.1 hx with e | hx
   ·rw [e]; exact he.1
   ·exact ih x hx
 have hall := hlt v1
 refine ⟨s, L[p], V, s2, v1, (noU h).1 ha.2, fun k hk hn => a3 k (mem_St.2 ⟨hk, (noU h).2 hn⟩), by omega, hall, ?_⟩
 have hst := startLoop h s g.length 0 (by omega) (by omega)
 have hst' : graph_Longest.l0 (usersA g) ((usersA g).length : Int) 0 s [] = some (s, ints (St g g.length)) := hst
 have hlab := labels_eq g (depsA g) (usersA g) (L := L[p] :: V) (by omega) hgl hall
 unfold graph_Longest.f
 rw [ht]
 have e0 : List.getD (ints (L[p] :: V)) (Int.toNat 0) 0 = ((L[p] : Nat) : Int) := rfl
 have hsl := s2.len
 simp only [ob_s, cb_not, cb_dec, if_true, Option.isSome_some, Option.getD_some, ck_tr, s1, hst', a2, v2', e0, hlab, d_rd' (d := s) (k := L[p]) (by omega)]
 rw [if_neg (by omega), ck_pos (by simp only [List.length_map, List.length_cons]; omega), ck_pos (by rw [show Int.toNat 0 = 0 from rfl]; simp only [List.length_map, List.length_cons]; omega), ck_pos (by omega)]
theorem Ahead_eq (h : Right g) {L : List Nat} (ho : Ord g L) (hl : L.length = g.length) (ht : graph_tree_o.f g = some (net g, (ints L, 0))) : ∃ s, Sum g (usersA g) s ∧ graph_Ahead.f g = some (s, 0) := by
 have hgl := h.len
 obtain ⟨s, s1, s2⟩ := sums_users h ho hl
 refine ⟨s, s2, ?_⟩
 have hr : srt_58_1000000_run (ints L) = some (ints L.reverse) := by
  unfold srt_58_1000000_run
  rw [ck_pos (by simp only [List.length_map]; omega)]
  simp [ints]
 unfold graph_Ahead.f
 rw [ht]
 simp only [ob_s, cb_not, cb_dec, if_true, hr, Option.isSome_some, Option.getD_some, ck_tr, s1]
end
end Go.Proofs.YtafalbofjmfbnaaDoor
set_option linter.unusedVariables false
set_option linter.unusedSimpArgs false
namespace Go.Proofs.YtafalbofjmfbnaaDoor
open Go Go.Proofs.YtafalbofjmfbnaaDoor.Eng
section
variable {g : List Nd}
theorem up_ind (h : Right g) {L : List Nat} (ho : Ord g L) (hl : L.length = g.length) {Q : Nat → Prop} (step : ∀ k, k < g.length → (∀ u, Ed g u k → Q u) → Q k) : ∀ k, k < g.length → Q k := by
 have key : ∀ (n p : Nat) (hp : p < L.length), L.length - p = n → Q L[p] := by
  intro n
  induction n using Nat.strongRecOn with
  | _ n ih =>
   intro p hp hn
   refine step _ (ho.lt _ (List.getElem_mem hp)) fun u hu => ?_
   obtain ⟨q, hq, hqe⟩ := List.getElem_of_mem (ho.all hl hu.1)
   obtain ⟨r, hr, hre⟩ := List.getElem_of_mem (ho.dep q hq L[p] (by rw [hqe]; exact hu))
   have hrq : r < q := by have := hr; simp at this; omega
   rw [List.getElem_take] at hre
   have := nodup_get ho.nodup (by omega : r < L.length) hp hre
   rw [← hqe]
   exact ih (L.length - q) (by omega) q hq rfl
 intro k hk
 obtain ⟨p, hp, hpe⟩ := List.getElem_of_mem (ho.all hl hk)
 rw [← hpe]
 exact key _ p hp rfl
theorem user_of {u k : Nat} (hk : k < g.length) (he : Ed g u k) : (u : Int) ∈ (usersA g).getD k [] := by
 rw [users_getD hk]
 exact U_mem.2 ⟨u, rfl, he.1, he.2⟩
theorem below (h : Right g) {L : List Nat} (ho : Ord g L) (hl : L.length = g.length) {s e : List Int} (hs : Sum g (depsA g) s) (he : Sum g (usersA g) e) {M : Int} (hM : ∀ k, k < g.length → (∀ u, ¬ Ed g u k) → s.getD k 0 ≤ M) : ∀ k, k < g.length → e.getD k 0 ≤ M := by
 have h1 : ∀ k, k < g.length → s.getD k 0 ≤ M := up_ind h ho hl fun k hk ih => by
  by_cases hu : ∃ u, Ed g u k
  ·obtain ⟨u, hu⟩ := hu
   have h2 := ih u hu
   have h3 := hs.up u k hu.1 hu.2
   have h4 := wt_in h hu.1
   omega
  ·exact hM k hk fun u hu' => hu ⟨u, hu'⟩
 have h2 : ∀ k, k < g.length → e.getD k 0 + s.getD k 0 - wt g k ≤ M := up_ind h ho hl fun k hk ih => by
  rcases he.got k hk with h3 | ⟨u, h3, h4⟩
  ·have := h1 k hk
   omega
  ·rw [users_getD hk] at h3
   obtain ⟨q, q1, q2, q3⟩ := U_mem.1 h3
   have : u = q := by omega
   subst this
   have h5 := ih u ⟨q2, q3⟩
   have h6 := hs.up u k q2 q3
   omega
 intro k hk
 have h3 := h2 k hk
 have h4 := hs.low k hk
 omega
theorem above {s e : List Int} (h : Right g) (he : Sum g (usersA g) e) {P : List Nat} (hv : Hv g s P) : ∀ a V, P = a :: V → ∃ k, k < g.length ∧ e.getD a 0 + (s.getD a 0 - wt g a) ≤ e.getD k 0 := by
 induction hv with
 | one a h1 h2 h3 =>
  intro a' V hP
  cases hP
  exact ⟨a, h1, by omega⟩
 | cons a b V hE h2 _ ih =>
  intro a' V' hP
  cases hP
  obtain ⟨k, k1, k2⟩ := ih b V rfl
  have hb := (h.ed_lt hE).2
  have := he.up b a hb (user_of hb hE)
  exact ⟨k, k1, by omega⟩
def sumP (g : List Nd) : List Nat → Int
 | [] => 0
 | x :: l => wt g x + sumP g l
theorem Hv.sum {s : List Int} {P : List Nat} (hv : Hv g s P) : ∀ a V, P = a :: V → s.getD a 0 = sumP g P := by
 induction hv with
 | one a h1 h2 h3 =>
  intro a' V hP
  cases hP
  simp only [sumP]; omega
 | cons a b V hE h2 _ ih =>
  intro a' V' hP
  cases hP
  have := ih b V rfl
  simp only [sumP] at this ⊢
  omega
theorem Hv.way {s : List Int} {P : List Nat} (hv : Hv g s P) : ∀ a V, P = a :: V → ∀ x ∈ V, ∃ m, Go.Proofs.YtafalbofjmfbnaaDoor.Eng.Way (Ed g) a x (m + 1) := by
 induction hv with
 | one a _ _ _ =>
  intro a' V hP x hx
  cases hP
  cases hx
 | cons a b V hE _ _ ih =>
  intro a' V' hP x hx
  cases hP
  rcases List.mem_cons.1 hx with e | hx
  ·rw [e]; exact ⟨0, .one hE⟩
  ·obtain ⟨m, hm⟩ := ih b V rfl x hx
   exact ⟨m + 1, .cons hE hm⟩
theorem Hv.nodup {s : List Int} (hno : ∀ x m, x < g.length → ¬ Go.Proofs.YtafalbofjmfbnaaDoor.Eng.Way (Ed g) x x (m + 1)) {P : List Nat} (hv : Hv g s P) : P.Nodup := by
 have hw := hv.way
 clear hw
 induction hv with
 | one a _ _ _ => simp
 | cons a b V hE hs hv ih =>
  refine List.nodup_cons.2 ⟨fun hm => ?_, ih⟩
  obtain ⟨m, hm⟩ := (Hv.cons a b V hE hs hv).way a (b :: V) rfl a hm
  exact hno a m hE.1 hm
theorem Hv.eds {s : List Int} {P : List Nat} (hv : Hv g s P) : ∀ i : Nat, ∀ hi : i + 1 < P.length, Ed g P[i] P[i + 1] := by
 induction hv with
 | one a _ _ _ => intro i hi; simp at hi
 | cons a b V hE _ _ ih =>
  intro i hi
  cases i with
  | zero => exact hE
  | succ i => exact ih i (by simpa using hi)
theorem Hv.end {s : List Int} {P : List Nat} (hv : Hv g s P) : ∃ hp : P.length - 1 < P.length, D g P[P.length - 1] = [] := by
 induction hv with
 | one a _ h _ => exact ⟨by simp, h⟩
 | cons a b V hE _ _ ih =>
  obtain ⟨h1, h2⟩ := ih
  refine ⟨by simp, ?_⟩
  have : (a :: b :: V)[(a :: b :: V).length - 1] = (b :: V)[(b :: V).length - 1] := by simp
  rw [this]; exact h2
def sumR (g : List Nd) (P : List Nat) : Nat → Int
 | 0 => 0
 | n + 1 => sumR g P n + (if n ∈ P then wt g n else 0)
theorem sumR_cons {x : Nat} {P : List Nat} (hx : x ∉ P) : ∀ n, sumR g (x :: P) n = sumR g P n + (if x < n then wt g x else 0)
 | 0 => by simp [sumR]
 | n + 1 => by
  have ih := sumR_cons hx n
  simp only [sumR, ih]
  by_cases e : n = x
  ·subst e
   rw [if_neg (Nat.lt_irrefl _), if_pos (List.mem_cons_self ..), if_neg hx, if_pos (by omega)]
  ·by_cases hm : n ∈ P
   ·rw [if_pos hm, if_pos (List.mem_cons_of_mem _ hm)]
    by_cases h2 : x < n
    ·rw [if_pos h2, if_pos (by omega)]; omega
    ·rw [if_neg h2, if_neg (by omega)]; omega
   ·rw [if_neg hm, if_neg (fun h => (List.mem_cons.1 h).elim e hm)]
    by_cases h2 : x < n
    ·rw [if_pos h2, if_pos (by omega)]; omega
    ·rw [if_neg h2, if_neg (by omega)]
theorem sumR_all : ∀ {P : List Nat}, P.Nodup → (∀ x ∈ P, x < g.length) → sumR g P g.length = sumP g P
 | [], _, _ => by
  have : ∀ n, sumR g [] n = 0 := fun n => by
   induction n with
   | zero => rfl
   | succ n ih => simp [sumR, ih]
  exact this _
 | x :: P, hn, hl => by
  rw [List.nodup_cons] at hn
  rw [sumR_cons hn.1, sumR_all hn.2 (fun y hy => hl y (List.mem_cons_of_mem _ hy)), if_pos (hl x (List.mem_cons_self ..))]
  simp only [sumP]; omega
theorem sumR_in (h : Right g) {P : List Nat} : ∀ n, n ≤ g.length → 0 ≤ sumR g P n ∧ sumR g P n ≤ 1000000 * (n : Int)
 | 0, _ => by simp [sumR]
 | n + 1, hn => by
  have ih := sumR_in h (P := P) n (by omega)
  have hw := wt_in h (k := n) (by omega)
  simp only [sumR]
  split <;> omega
theorem topLoop (h : Right g) {P : List Nat} (hP : ∀ x ∈ P, x < g.length) (hPl : P.length ≤ g.length) {e : List Int} (he : e.length = g.length) : ∀ (n i : Nat) (t : Int), g.length - i = n → i ≤ g.length → 0 ≤ t → (∀ k, k < i → e.getD k 0 ≤ t) → (t = 0 ∨ ∃ k, k < i ∧ t = e.getD k 0) →
  ∃ t', law4_GraphLongestIsHeaviest.l0 g (P.map (labN g)) e t (sumR g P i) (i : Int) = some (t', sumR g P g.length) ∧ 0 ≤ t' ∧ (∀ k, k < g.length → e.getD k 0 ≤ t') ∧ (t' = 0 ∨ ∃ k, k < g.length ∧ t' = e.getD k 0) := by
 have hgl := h.len
 intro n
 induction n with
 | zero =>
  intro i t hn hi h0 h1 h2
  have e' : i = g.length := by clear h2; omega
  subst e'
  refine ⟨t, loopX_done ?_, h0, h1, h2⟩
  simp only [law4_GraphLongestIsHeaviest.s0, cb_dec]
  rw [if_neg (by clear h2; omega)]
 | succ n ih =>
  intro i t hn hi h0 h1 h2
  have hlt : i < g.length := by clear h2; omega
  have hn1 : g.length - (i + 1) = n := by clear h2; omega
  have hi1 : i + 1 ≤ g.length := hlt
  obtain ⟨t', g1, g2⟩ := ih (i + 1) (max t (e.getD i 0)) hn1 hi1 (by clear h2; omega) (fun k hk => by
   by_cases hki : k = i
   ·rw [hki]; clear h2; omega
   ·have := h1 k (by clear h2; omega); clear h2; omega) (by
   by_cases hc : t ≤ e.getD i 0
   ·rw [Int.max_eq_right hc]; exact .inr ⟨i, Nat.lt_succ_self i, rfl⟩
   ·rw [Int.max_eq_left (by clear h2; omega)]
    rcases h2 with h2 | ⟨k, k1, k2⟩
    ·exact .inl h2
    ·exact .inr ⟨k, Nat.lt_succ_of_lt k1, k2⟩)
  clear h2
  refine ⟨t', (loopX_next ?_).trans g1, g2⟩
  obtain ⟨b, b1, b2⟩ := contB (l := P.map (labN g)) (by simp; omega) g[i].1
  have hs := sumR_in h (P := P) i (by omega)
  have hw := wt_in h hlt
  have hb : b = true ↔ i ∈ P := by
   rw [b2, List.mem_map]
   constructor
   ·rintro ⟨q, q1, q2⟩
    rw [← labN_get hlt] at q2
    rw [← labN_inj h (hP q q1) hlt q2]; exact q1
   ·exact fun hm => ⟨i, hm, labN_get hlt⟩
  simp only [law4_GraphLongestIsHeaviest.s0, cb_dec, d_rd' (d := e) (k := i) (by omega), rd_lt hlt, b1, ob_s, sumR]
  rw [if_pos (by omega), ck_pos (by omega), ck_pos (by omega)]
  rw [wt_get hlt] at hw ⊢
  cases b with
  | true =>
   rw [if_pos (hb.1 rfl), cb_t, ck_pos (by omega), ck_in (by omega) (by omega), ck_in (by omega) (by omega)]
   rfl
  | false =>
   rw [if_neg (fun hm => by have := hb.2 hm; cases this), cb_f, ck_in (by omega) (by omega), Int.add_zero]
   rfl
theorem law_LH (hs : ∀ n ∈ g, szNd n) : law4_GraphLongestIsHeaviest.f g = some true := by
 unfold law4_GraphLongestIsHeaviest.f
 rcases tree_eq hs with ⟨f, f1, f2, f3⟩ | ⟨h, L, ho, hl, ht, hto⟩
 ·have a1 : graph_Longest.f g = some ([], (0, f)) := by
   unfold graph_Longest.f
   rw [f2]
   simp only [ob_s, cb_not, cb_dec, if_neg f1]
  have a2 : graph_Ahead.f g = some ([], f) := by
   unfold graph_Ahead.f
   rw [f3]
   simp only [ob_s, cb_not, cb_dec, if_neg f1]
  rw [a1, a2]
  simp only [ob_s, cb_not, cb_dec, if_neg f1, List.length_nil, if_true, awake4]
  rfl
 ·have hgl := h.len
  obtain ⟨e, e1, e2⟩ := Ahead_eq h ho hl hto
  have hel := e1.len
  rcases Nat.eq_zero_or_pos g.length with h0 | hne
  ·have hg : g = [] := List.eq_nil_of_length_eq_zero h0
   have a1 : graph_Longest.f g = some ([], (0, 0)) := by
    unfold graph_Longest.f
    rw [ht]
    simp only [ob_s, cb_not, cb_dec, if_true]
    rw [if_pos (by omega)]
   subst hg
   have he : e = [] := List.eq_nil_of_length_eq_zero hel
   subst he
   rw [a1, e2]
   have l0 : law4_GraphLongestIsHeaviest.l0 [] [] [] 0 0 0 = some (0, 0) := loopX_done (by rfl)
   have l1 : law4_GraphLongestIsHeaviest.l1 [] [] 0 = some (.inr ()) := loopX_done (by rfl)
   have l2 : law4_GraphLongestIsHeaviest.l2 [] [] 1 = some (.inr ()) := loopX_done (by rfl)
   simp only [ob_s, cb_not, cb_dec, if_true, l0, l1, l2, caseS_r, awake4]
   rfl
  ·obtain ⟨s, a, V, s1, v1, v2, v3, v4, v5, v6⟩ := Longest_eq h ho hl ht hne
   rw [v6, e2]
   generalize hPe : a :: V = P at *
   have hP0 : 0 < P.length := by rw [← hPe]; simp
   have hPa : P[0] = a := by subst hPe; rfl
   have hlab : ∀ {i : Nat} (hi : i < P.length), rd ByteArray.empty (P.map (labN g)) (i : Int) = labN g P[i] := fun hi => by
    rw [rd_lt (by simpa using hi), List.getElem_map]
   have hnd := v1.nodup (ho.noloop h hl)
   have hsum : sumR g P g.length = s.getD a 0 := by
    rw [sumR_all hnd v5, v1.sum a V hPe.symm]
   obtain ⟨t, t1, t2, t3, t4⟩ := topLoop h v5 v4 hel g.length 0 0 (by omega) (by omega) (by omega) (fun k hk => absurd hk (Nat.not_lt_zero _)) (.inl rfl)
   have t1' : law4_GraphLongestIsHeaviest.l0 g (P.map (labN g)) e 0 0 0 = some (t, sumR g P g.length) := t1
   have htop : t = s.getD a 0 := by
    have hM := below h ho hl s1 e1 v3
    obtain ⟨k, k1, k2⟩ := above h e1 v1 a V hPe.symm
    have h3 := t3 k k1
    have ha := v5 a (by rw [← hPe]; exact List.mem_cons_self ..)
    have h4 := e1.low a ha
    have h5 := s1.low a ha
    have h6 := wt_in h ha
    rcases t4 with t4 | ⟨q, q1, q2⟩
    ·omega
    ·have := hM q q1
     omega
   obtain ⟨hlast, hend⟩ := v1.end
   have hlr : rd ByteArray.empty (P.map (labN g)) ((P.length : Int) - 1) = labN g P[P.length - 1] := by
    rw [show (P.length : Int) - 1 = ((P.length - 1 : Nat) : Int) by omega]; exact hlab hlast
   have hfr : rd ByteArray.empty (P.map (labN g)) 0 = labN g a := by
    have := hlab hP0
    rw [show ((0 : Nat) : Int) = 0 from rfl] at this
    rw [this, hPa]
   have l1 : ∀ (n i : Nat), g.length - i = n → i ≤ g.length → law4_GraphLongestIsHeaviest.l1 g (P.map (labN g)) (i : Int) = some (.inr ()) := by
    intro n
    induction n with
    | zero =>
     intro i hn hi
     refine loopX_done ?_
     simp only [law4_GraphLongestIsHeaviest.s1, cb_dec]
     rw [if_neg (by omega)]
    | succ n ih =>
     intro i hn hi
     have hlt : i < g.length := by omega
     refine (loopX_next ?_).trans (ih (i + 1) (by omega) (by omega))
     obtain ⟨b, b1, b2⟩ := contB (l := g[i].2.2.1) (by have := (h.nd _ (List.getElem_mem hlt)).1; omega) (labN g a)
     have ha := v5 a (by rw [← hPe]; exact List.mem_cons_self ..)
     have hb : b = false := by
      cases b with
      | false => rfl
      | true =>
       exfalso
       refine v2 i ⟨hlt, (D_label h hlt ha).2 ?_⟩
       have := b2.1 rfl
       rw [labN_get ha] at this
       exact this
     simp only [law4_GraphLongestIsHeaviest.s1, cb_dec, List.length_map, rd_lt hlt, hfr, hlr, b1, ob_s, hb, cb_f]
     rw [if_pos (by omega), if_pos (by omega), ck_pos (by omega), ck_pos (by omega), if_pos (by omega), ck_pos (by omega), ck_in (by omega) (by omega), ck_pos (by omega)]
     by_cases hel : g[i].1 = labN g P[P.length - 1]
     ·have hi' : i = P[P.length - 1] := labN_inj h hlt (v5 _ (List.getElem_mem hlast)) (by rw [labN_get hlt, hel])
      have hz : g[i].2.2.1.length = 0 := by
       rw [← hi', D_get hlt] at hend
       simpa using hend
      rw [if_pos hel, ck_pos (by omega), if_neg (by omega), ck_in (by omega) (by omega)]
      rfl
     ·rw [if_neg hel, ck_in (by omega) (by omega)]
      rfl
   have l2 : ∀ (n i : Nat), P.length - i = n → 1 ≤ i → law4_GraphLongestIsHeaviest.l2 g (P.map (labN g)) (i : Int) = some (.inr ()) := by
    intro n
    induction n with
    | zero =>
     intro i hn hi
     refine loopX_done ?_
     simp only [law4_GraphLongestIsHeaviest.s2, cb_dec, List.length_map]
     rw [if_neg (by omega)]
    | succ n ih =>
     intro i hn hi
     have hlt : i < P.length := by omega
     refine (loopX_next ?_).trans (ih (i + 1) (by omega) (by omega))
     have hed := v1.eds (i - 1) (by omega)
     have e1 : i - 1 + 1 = i := by omega
     simp only [e1] at hed
     have hm1 : rd ByteArray.empty (P.map (labN g)) ((i : Int) - 1) = labN g (P[i - 1]'(by omega)) := by
      rw [show (i : Int) - 1 = ((i - 1 : Nat) : Int) by omega]; exact hlab (by omega)
     simp only [law4_GraphLongestIsHeaviest.s2, cb_dec, List.length_map, hm1, hlab hlt, needs_ed h hed, ob_s, Bool.not_true, cb_f]
     rw [if_pos (by omega), ck_in (by omega) (by omega), ck_pos (by omega), ck_pos (by omega), ck_in (by omega) (by omega)]
     rfl
   have l1' := l1 g.length 0 (by omega) (by omega)
   have l2' := l2 _ 1 rfl (Nat.le_refl _)
   rw [show ((0 : Nat) : Int) = 0 from rfl] at l1'
   rw [show ((1 : Nat) : Int) = 1 from rfl] at l2'
   simp only [ob_s, cb_not, cb_dec, if_true, t1', l1', l2', caseS_r, awake4, hsum, htop, List.length_map]
   rw [decide_eq_false (by omega : ¬ (P.length : Int) = 0), decide_eq_false (by omega : ¬ (g.length : Int) = 0)]
   rfl
end
end Go.Proofs.YtafalbofjmfbnaaDoor
set_option linter.unusedVariables false
set_option linter.unusedSimpArgs false
set_option maxRecDepth 100000
set_option maxHeartbeats 4000000
namespace Go.Proofs.YtafalbofjmfbnaaDoor
open Go Go.RowKit Go.ChangeShapes Go.WideShapes Go.ChangeAt Go.Proofs.YtafalbofjmfbnaaDoor.Eng
theorem nodes_in (l : List Nd) (hx : InA T 6 [22] [.slice (.pair .str (.pair .str (.pair (.slice .str) (.pair (.slice .str) (.pair (.slice .str) (.int .i64))))))] l) : ∀ n ∈ l, szNd n := by
 have hr : reachBytes ≤ BIG := by unfold BIG; decide +kernel
 intro n hn
 have h := hx.2 n hn
 exact ⟨Nat.le_trans (show n.1.size ≤ reachBytes from h.1) hr, fun x hm => Nat.le_trans (show x.size ≤ reachBytes from h.2.2.1.2 x hm) hr, fun x hm => Nat.le_trans (show x.size ≤ reachBytes from h.2.2.2.1.2 x hm) hr, fun x hm => Nat.le_trans (show x.size ≤ reachBytes from h.2.2.2.2.1.2 x hm) hr⟩
theorem own : ownKnob Tryd.prog.godebug = none := by kernel_rfl
theorem laidOut : laidOutB Tryd.prog = true := by kernel_rfl
end Go.Proofs.YtafalbofjmfbnaaDoor
set_option linter.unusedVariables false
set_option linter.unusedSimpArgs false
set_option maxRecDepth 100000
set_option maxHeartbeats 4000000
namespace Go.Proofs.YtafalbofjmfbnaaDoor
open Go Go.RowKit Go.ChangeShapes Go.WideShapes Go.ChangeAt Go.Proofs.YtafalbofjmfbnaaDoor.Eng
theorem graphLongestIsHeaviest_av (xs : List AV) (h : ShapeA T 6 [22] xs) : FPure Tryd.prog 4 xs (.v (.bool true)) :=
 law_typed (T := T) (m := 6) (ts := [22]) law4_GraphLongestIsHeaviest.ok (by kernel_rfl) (fun x hx => law_LH (nodes_in x hx)) xs h
theorem graphLongestIsHeaviest_lifted (os : Os) (started : os.Started) (H : Type) (enc : TypeId × Value → H) :
  ReturnsInHanded {} Tryd.checked os 4 .any (fun w args => (Rows.graphLongestIsHeaviestSpec.pre enc Tryd.prog Tryd.f4 Rows.graphLongestIsHeaviestRow.domain false w args ∧ laidMetH Tryd.prog Rows.graphLongestIsHeaviestRow.laid w) ∧ sizedMet enc Tryd.prog Tryd.f4 (OpenSpec.ofChange Rows.graphLongestIsHeaviestSpec) false w args)
   (Rows.graphLongestIsHeaviestSpec.post enc Tryd.prog Tryd.f4 false true false false) := by
 refine returnsInHanded_of_change_and (C := Tryd.checked) (X := fun w _ => laidMetH Tryd.prog Rows.graphLongestIsHeaviestRow.laid w) (fun _ _ _ hh h => h.of_heap hh) own started (by kernel_rfl) Tryd.func4
  (ChangeSpec.witness_shaped (enc := enc) (C := Tryd.checked) (os := os) (X := fun w _ => laidMetH Tryd.prog Rows.graphLongestIsHeaviestRow.laid w) false (World.laidAll Tryd.prog os Rows.graphLongestIsHeaviestRow.laid) #[.slice none 0 0] 8 (World.laidAll_os _ _ _)
   (World.shaped_of_ZipB (by kernel_rfl) (by kernel_rfl)) (by kernel_rfl) (by kernel_rfl) (by kernel_rfl)
   (by rw [MakeChecks.laidMetH_plain _ _ _ (by kernel_rfl)]; exact laidMet_laidAll _ (by kernel_rfl) (by kernel_rfl))) ?_
 intro W base args ds gs before hval0 hW hcnd hsz0 hL _
 have hW' := hW
 obtain ⟨p, q, hA0, hV, rfl, hfz, hnd⟩ := hW
 have hsz : (DataW.weightsEach Tryd.prog (Tryd.f4.params.toList ++ Rows.graphLongestIsHeaviestSpec.plain.varTypes Tryd.prog) (ds ++ gs)).all (· ≤ reachBytes) = true := hsz0
 have hA : DataW.TrodAll enc Tryd.prog W 0 (fun _ => true) true [22] args.toList ds p := hA0
 obtain ⟨rfl, rfl⟩ := trodVars_none hV
 have hlaw := law_calls (r := .any) (b0 := base) tabOK laidOut graphLongestIsHeaviest_av (by decide +kernel) (by kernel_rfl) hA (fun j t v h1 h2 => hval0 j t v (by simpa using h1) (by simpa using h2)) (by rw [List.append_nil] at hsz; exact hsz)
 simp only [Array.toArray_toList] at hlaw
 refine hlaw.mono fun e W' ⟨he, bel, hback⟩ => ?_
 subst he
 obtain ⟨d1, hds⟩ : ∃ d1, ds = [d1] := by
  obtain ⟨_, _, d1, _, _, _, _, rfl, _, _, h⟩ := trodAll_cons hA
  obtain ⟨_, rfl, _⟩ := trodAll_nil h
  exact ⟨d1, rfl⟩
 subst hds
 exact ⟨_, rfl, _, _, _, [], _, [], hW', trodAll_mk1 (shut_bool Tryd.underlying4 _), hback, rfl, bel.frame _, fun h => by cases h⟩
theorem graphLongestIsHeaviest_facts : joinedFacts Tryd.prog 4 Tryd.f4 Rows.graphLongestIsHeaviestSpec Rows.graphLongestIsHeaviestRow = true := by
 unfold joinedFacts
 rw [laidOut, e_make, e_lifted, e_may]
 kernel_rfl
theorem graphLongestIsHeaviest_over : Rows.graphLongestIsHeaviestRow.holds Tryd.pinned (OpenSpec.ofChange Rows.graphLongestIsHeaviestSpec) :=
 OpenClaim.holds_of_wide 4 Tryd.f4 rfl rfl rfl rfl rfl rfl rfl ⟨rfl, rfl, rfl, rfl, rfl⟩ rfl rfl rfl rfl rfl (by kernel_rfl) Tryd.func4 graphLongestIsHeaviest_facts
  (of_decide_eq_true (by kernel_rfl)) (by unfold Func.isWrapper; first | (rw [if_pos (by decide +kernel)]; kernel_rfl) | (rw [if_neg (by decide +kernel)]; exact ⟨rfl, rfl⟩))
  (fun os started H enc _ => graphLongestIsHeaviest_lifted os started H enc)
theorem graphLongestIsHeaviest_wf : Rows.graphLongestIsHeaviestRow.wfByText (OpenSpec.ofChange Rows.graphLongestIsHeaviestSpec) = true := by kernel_rfl
theorem graphLongestIsHeaviest_main : Tryd.pinned.checked.prog.mainIs = some (true, "1092b4553f88940e8c582512ebac33dffa2401166445bdfd8d1fed2006d5252b".toList) := e_main
theorem graphLongestIsHeaviest_looks : false = Tryd.pinned.checked.prog.looks [] := by kernel_rfl
theorem graphLongestIsHeaviest_goes : false = Rows.graphLongestIsHeaviestRow.goesBy Tryd.pinned.checked.prog := by kernel_rfl
theorem graphLongestIsHeaviest_named : Tryd.prog.funcNamed "smithyard/smithyardlaw4.GraphLongestIsHeaviest" = some 4 := by kernel_rfl
theorem graphLongestIsHeaviest_noStand : ([22].all fun u => !Tryd.prog.wantsStandIn u) = true := by kernel_rfl
theorem graphLongestIsHeaviest_holds : Rows.GraphLongestIsHeaviestCardSaid :=
 Claim7.holds_tied_plain_at .later [] [.data, .pinned] true (true, "1092b4553f88940e8c582512ebac33dffa2401166445bdfd8d1fed2006d5252b") false graphLongestIsHeaviest_over (fun _ h => by cases h) graphLongestIsHeaviest_wf (fun _ h => by cases h) graphLongestIsHeaviest_row_tie rfl ⟨rfl, rfl⟩ graphLongestIsHeaviest_main rfl
  (fun f fn hf hfn => by
   obtain rfl : f = 4 := Option.some.inj (graphLongestIsHeaviest_named.symm.trans hf) |>.symm
   obtain rfl : fn = Tryd.f4 := (Option.some.inj (Tryd.func4.symm.trans hfn)).symm
   exact ⟨graphLongestIsHeaviest_looks, fun j t ht => by
    rw [Tryd.params4] at ht
    have hm : t ∈ [22] := by simpa using Array.mem_of_getElem? ht
    exact (show Tryd.prog.wantsStandIn t = false by simpa using List.all_eq_true.1 graphLongestIsHeaviest_noStand t hm)⟩)
  graphLongestIsHeaviest_goes
end Go.Proofs.YtafalbofjmfbnaaDoor
