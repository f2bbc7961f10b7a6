/-
  Plain laws over the printed functions: how far each is, who lies within so many steps. No condition.
-/
import Derived.Test.YtafalbofjmfbnaaDoorPlain2
set_option linter.unusedVariables false
set_option linter.unusedSimpArgs false
namespace Go.Proofs.YtafalbofjmfbnaaDoor
open Go Go.Proofs.YtafalbofjmfbnaaDoor.Eng
def unr : List Int → Nat
 | [] => 0
 | x :: l => (if x < 0 then 1 else 0) + unr l
theorem unr_le : ∀ l : List Int, unr l ≤ l.length
 | [] => Nat.le_refl _
 | x :: l => by have := unr_le l; simp only [unr, List.length_cons]; split <;> omega
theorem unr_set : ∀ (l : List Int) (k : Nat) (v : Int), k < l.length → l.getD k 0 < 0 → 0 ≤ v → unr (l.set k v) + 1 = unr l
 | [], k, v, h, _, _ => absurd h (Nat.not_lt_zero _)
 | x :: l, 0, v, _, h1, h2 => by
  have h1' : x < 0 := by simpa using h1
  simp only [List.set_cons_zero, unr]
  rw [if_pos h1', if_neg (by omega)]
  omega
 | x :: l, k + 1, v, h, h1, h2 => by
  have := unr_set l k v (by simpa using h) (by simpa using h1) h2
  simp only [List.set_cons_succ, unr]
  omega
def Ad (adj : List (List Int)) (k y : Nat) : Prop := k < adj.length ∧ (y : Int) ∈ adj.getD k []
structure Bf (adj : List (List Int)) (S : List Nat) (d : List Int) (q : List Nat) (pend : Nat → Prop) : Prop where
 len : d.length = adj.length
 low : ∀ k, k < adj.length → d.getD k 0 = -1 ∨ 0 ≤ d.getD k 0
 src : ∀ k, k < adj.length → (d.getD k 0 = 0 ↔ k ∈ S)
 back : ∀ y, y < adj.length → 0 < d.getD y 0 → ∃ k, k < adj.length ∧ Ad adj k y ∧ d.getD k 0 = d.getD y 0 - 1
 qlt : ∀ x ∈ q, x < adj.length ∧ 0 ≤ d.getD x 0
 cnt : unr d + q.length ≤ adj.length
 top : ∀ k, k < adj.length → d.getD k 0 + (unr d : Int) ≤ (adj.length : Int)
 sorted : q.Pairwise fun a b => d.getD a 0 ≤ d.getD b 0
 step : ∀ k y, k < adj.length → Ad adj k y → 0 ≤ d.getD k 0 → k ∉ q → ¬ pend k → 0 ≤ d.getD y 0 ∧ d.getD y 0 ≤ d.getD k 0 + 1
section
variable {adj : List (List Int)} {S : List Nat}
theorem nearLoop (hn : adj.length ≤ 1000) (hA : ∀ k y, k < adj.length → y ∈ adj.getD k [] → ∃ u : Nat, y = u ∧ u < adj.length) {h : Nat} (hh : h < adj.length) (hl : (adj.getD h []).length ≤ 1000000) :
  ∀ (n j : Nat) (d : List Int) (q : List Nat), (adj.getD h []).length - j = n → j ≤ (adj.getD h []).length → Bf adj S d q (· = h) → 0 ≤ d.getD h 0 → (∀ x ∈ q, d.getD h 0 ≤ d.getD x 0) → (∀ y, y < adj.length → d.getD y 0 ≤ d.getD h 0 + 1) →
   (∀ u : Nat, (u : Int) ∈ (adj.getD h []).take j → 0 ≤ d.getD u 0) →
   ∃ d' q', graph_steps.l3 (h : Int) (adj.getD h []) ((adj.getD h []).length : Int) (j : Int) d (ints q) = some (d', ints q') ∧ Bf adj S d' q' (fun _ => False) ∧ (∀ x ∈ q', ∀ y, y < adj.length → d'.getD y 0 ≤ d'.getD x 0 + 1) ∧
    2 * unr d' + q'.length ≤ 2 * unr d + q.length := by
 intro n
 induction n with
 | zero =>
  intro j d q hj hjl hb h0 hq hy ht
  refine ⟨d, q, loopX_done ?_, ⟨hb.len, hb.low, hb.src, hb.back, hb.qlt, hb.cnt, hb.top, hb.sorted, fun k y hk he hd hkq _ => ?_⟩, fun x hx y hyl => ?_, Nat.le_refl _⟩
  ·simp only [graph_steps.s3, cb_dec]
   rw [if_neg (by omega)]
  ·by_cases e : k = h
   ·subst e
    rw [List.take_of_length_le (by omega)] at ht
    obtain ⟨u, hu1, hu2⟩ := hA k y hk he.2
    have : y = u := by omega
    exact ⟨ht y he.2, hy y (by omega)⟩
   ·exact hb.step k y hk he hd hkq e
  ·have h1 := hq x hx
   have h2 := hy y hyl
   omega
 | succ n ih =>
  intro j d q hj hjl hb h0 hq hy ht
  have hlt : j < (adj.getD h []).length := by omega
  have hm : (adj.getD h [])[j] ∈ adj.getD h [] := List.getElem_mem hlt
  obtain ⟨u, hu1, hu2⟩ := hA h _ hh hm
  have hE : Ad adj h u := ⟨hh, hu1 ▸ hm⟩
  have hlen := hb.len
  have hul := unr_le d
  have hcnt := hb.cnt
  have htk : ∀ w : Nat, (w : Int) ∈ (adj.getD h []).take (j + 1) → w = u ∨ (w : Int) ∈ (adj.getD h []).take j := fun w hw => by
   rw [List.take_succ_eq_append_getElem hlt, List.mem_append, List.mem_singleton, hu1] at hw
   rcases hw with hw | hw
   ·exact .inr hw
   ·exact .inl (by omega)
  by_cases hneg : d.getD u 0 < 0
  ·have huh : u ≠ h := fun e => by rw [e] at hneg; omega
   have huq : u ∉ q := fun hm => by have := (hb.qlt u hm).2; omega
   have hg : ∀ w, (d.set u (d.getD h 0 + 1)).getD w 0 = if w = u then d.getD h 0 + 1 else d.getD w 0 := fun w => getD_set _ _ _ _ _ (by omega)
   have hgh : (d.set u (d.getD h 0 + 1)).getD h 0 = d.getD h 0 := by rw [hg, if_neg (fun e => huh e.symm)]
   have hun := unr_set d u (d.getD h 0 + 1) (by omega) hneg (by omega)
   have hgr : ∀ w, 0 ≤ d.getD w 0 → (d.set u (d.getD h 0 + 1)).getD w 0 = d.getD w 0 := fun w hw => by
    rw [hg, if_neg (fun e => by rw [e] at hw; omega)]
   obtain ⟨d', q', g1, g2, g3, g4⟩ := ih (j + 1) (d.set u (d.getD h 0 + 1)) (q ++ [u]) (by omega) (by omega)
    ⟨by
     simpa using hlen, fun k hk => by
     rw [hg]; split
     ·exact .inr (by omega)
     ·exact hb.low k hk,
     fun k hk => by
      rw [hg]; split
      ·rename_i e
       constructor
       ·intro h; omega
       ·intro hk'
        have := (hb.src k hk).2 hk'
        rw [e] at this; omega
      ·exact hb.src k hk,
     fun y hyl hp => by
      rw [hg] at hp ⊢
      split at hp
      ·rename_i e
       rw [if_pos e]
       exact ⟨h, hh, e ▸ hE, by rw [hgh]; omega⟩
      ·rename_i e
       rw [if_neg e]
       obtain ⟨k, k1, k2, k3⟩ := hb.back y hyl hp
       exact ⟨k, k1, k2, by rw [hgr k (by omega)]; exact k3⟩,
     fun x hx => by
      rcases List.mem_append.1 hx with hx | hx
      ·have := hb.qlt x hx
       exact ⟨this.1, by rw [hgr x this.2]; exact this.2⟩
      ·rw [List.mem_singleton.1 hx]
       exact ⟨hu2, by rw [hg, if_pos rfl]; omega⟩,
     by simp only [List.length_append, List.length_cons, List.length_nil]; omega,
     fun k hk => by
      have h1 := hb.top k hk
      have h2 := hb.top h hh
      rw [hg]; split <;> omega,
     by
      rw [List.pairwise_append]
      refine ⟨hb.sorted.imp_of_mem fun {a b} ha hb' hab => ?_, List.pairwise_singleton _ _, fun a ha b hb' => ?_⟩
      ·rw [hgr a (hb.qlt a ha).2, hgr b (hb.qlt b hb').2]; exact hab
      ·rw [List.mem_singleton.1 hb', hgr a (hb.qlt a ha).2, hg u, if_pos rfl]
       exact hy a (hb.qlt a ha).1,
     fun k y hk he hd hkq hp => by
      have hku : k ≠ u := fun e => hkq (List.mem_append.2 (.inr (List.mem_singleton.2 e)))
      rw [hg, if_neg hku] at hd
      have := hb.step k y hk he hd (fun hm => hkq (List.mem_append.2 (.inl hm))) hp
      rw [hgr y this.1, hgr k hd]
      exact this⟩
    (by rw [hgh]; exact h0)
    (fun x hx => by
     rw [hgh]
     rcases List.mem_append.1 hx with hx | hx
     ·rw [hgr x (hb.qlt x hx).2]; exact hq x hx
     ·rw [List.mem_singleton.1 hx, hg, if_pos rfl]; omega)
    (fun y hyl => by
     rw [hgh, hg]
     split
     ·omega
     ·exact hy y hyl)
    (fun w hw => by
     rcases htk w hw with e | hw
     ·rw [hg, if_pos e]; omega
     ·rw [hgr w (ht w hw)]; exact ht w hw)
   refine ⟨d', q', (loopX_next ?_).trans g1, g2, g3, by simp only [List.length_append, List.length_cons, List.length_nil] at g4; omega⟩
   have hdl := unr_le d
   have hhy := hy h hh
   have hdh : d.getD h 0 ≤ 1000 := by have := hb.top h hh; omega
   have hint : ints (q ++ [u]) = ints q ++ [(u : Int)] := by simp [ints]
   simp only [graph_steps.s3, cb_dec, rd_lt hlt, hu1, Int.toNat_natCast]
   rw [if_pos (by omega), ck_pos (by omega), ck_pos (by omega), ck_pos (by omega), if_pos hneg, ck_pos (by omega), ck_pos (by omega), ck_in (by omega) (by omega), ck_pos (by omega), ck_pos (by omega), ck_pos (by simp only [List.length_map, List.length_cons, List.length_nil]; omega), ck_in (by omega) (by omega), hint]
   rfl
  ·obtain ⟨d', q', g1, g2, g3, g4⟩ := ih (j + 1) d q (by omega) (by omega) hb h0 hq hy (fun w hw => by
    rcases htk w hw with e | hw
    ·rw [e]; omega
    ·exact ht w hw)
   refine ⟨d', q', (loopX_next ?_).trans g1, g2, g3, g4⟩
   simp only [graph_steps.s3, cb_dec, rd_lt hlt, hu1, Int.toNat_natCast]
   rw [if_pos (by omega), ck_pos (by omega), ck_pos (by omega), ck_pos (by omega), if_neg hneg, ck_in (by omega) (by omega)]
   rfl
theorem outLoop (hn : adj.length ≤ 1000) (hA : ∀ k y, k < adj.length → y ∈ adj.getD k [] → ∃ u : Nat, y = u ∧ u < adj.length) (hL : ∀ k, k < adj.length → (adj.getD k []).length ≤ 1000000) :
  ∀ (n : Nat) (d : List Int) (q : List Nat), 2 * unr d + q.length ≤ n → Bf adj S d q (fun _ => False) → (∀ x ∈ q, ∀ y, y < adj.length → d.getD y 0 ≤ d.getD x 0 + 1) →
   ∃ d' o, graph_steps.l2 adj d (ints q) = some (d', o) ∧ Bf adj S d' [] (fun _ => False) := by
 intro n
 induction n with
 | zero =>
  intro d q hq hb hy
  have hq0 : q = [] := List.eq_nil_of_length_eq_zero (by omega)
  subst hq0
  refine ⟨d, [], loopX_done ?_, hb⟩
  rfl
 | succ n ih =>
  intro d q hq hb hy
  cases q with
  | nil => exact ⟨d, [], loopX_done (by rfl), hb⟩
  | cons h q =>
   obtain ⟨hh, h0⟩ := hb.qlt h (List.mem_cons_self ..)
   have hs := List.pairwise_cons.1 hb.sorted
   obtain ⟨d', q', g1, g2, g3, g4⟩ := nearLoop hn hA hh (hL h hh) _ 0 d q rfl (Nat.zero_le _)
    ⟨hb.len, hb.low, hb.src, hb.back, fun x hx => hb.qlt x (List.mem_cons_of_mem _ hx), by have := hb.cnt; simp only [List.length_cons] at this; omega, hb.top, hs.2,
     fun k y hk he hd hkq hp => hb.step k y hk he hd (fun hm => by rcases List.mem_cons.1 hm with e | hm; (· exact hp e); (· exact hkq hm)) (fun h => h)⟩
    h0 hs.1 (hy h (List.mem_cons_self ..)) (fun u hu => by simp at hu)
   simp only [List.length_cons] at hq
   obtain ⟨d2, o, k1, k2⟩ := ih d' q' (by omega) g2 g3
   refine ⟨d2, o, (loopX_next (x' := (d', ints q')) ?_).trans k1, k2⟩
   rw [show ((0 : Nat) : Int) = 0 from rfl] at g1
   have hql := hb.cnt
   simp only [List.length_cons] at hql
   have e0 : List.getD (ints (h :: q)) (Int.toNat 0) 0 = (h : Int) := rfl
   have e1 : List.drop (Int.toNat 1) (ints (h :: q)) = ints q := rfl
   have er : rd ([] : List Int) adj (h : Int) = adj.getD h [] := by rw [rd_lt hh]; simp [List.getD, hh]
   have el : (ints (h :: q)).length = q.length + 1 := by simp
   simp only [graph_steps.s2, cb_dec, e0, e1, er, g1, el]
   rw [if_pos (by omega), ck_pos (by omega), ck_pos (by rw [show Int.toNat 0 = 0 from rfl]; omega), ck_pos (by omega), ck_pos (by omega), ck_pos (by rw [show Int.toNat 1 = 1 from rfl]; omega), ob_s]
theorem fillLoop {m : Nat} (hm : m ≤ 1000) : ∀ (n i : Nat) (d : List Int), m - i = n → i ≤ m → d.length = m → (∀ k, k < i → d.getD k 0 = -1) →
  ∃ d', graph_steps.l0 (m : Int) (i : Int) d = some d' ∧ d'.length = m ∧ ∀ k, k < m → d'.getD k 0 = -1 := by
 intro n
 induction n with
 | zero =>
  intro i d hi him hd hv
  refine ⟨d, loopX_done ?_, hd, fun k hk => hv k (by omega)⟩
  simp only [graph_steps.s0, cb_dec]
  rw [if_neg (by omega)]
 | succ n ih =>
  intro i d hi him hd hv
  obtain ⟨d', h1, h2, h3⟩ := ih (i + 1) (d.set i (-1)) (by omega) (by omega) (by simpa using hd) (fun k hk => by
   rw [getD_set _ _ _ _ _ (by omega)]
   split
   ·rfl
   ·exact hv k (by omega))
  refine ⟨d', (loopX_next ?_).trans h1, h2, h3⟩
  simp only [graph_steps.s0, cb_dec, Int.toNat_natCast]
  rw [if_pos (by omega), ck_pos (by omega), ck_pos (by omega), ck_in (by omega) (by omega)]
  rfl
theorem unr_all : ∀ (l : List Int), unr l ≤ l.length := unr_le
theorem srcLoop (hn : adj.length ≤ 1000) (hS : ∀ s ∈ S, s < adj.length) (hSl : S.length ≤ 1000000) : ∀ (n i : Nat) (d : List Int) (q : List Nat), S.length - i = n → i ≤ S.length → d.length = adj.length →
  (∀ k, k < adj.length → d.getD k 0 = if k ∈ S.take i then 0 else -1) → (∀ k, k ∈ q ↔ k ∈ S.take i) → unr d + q.length ≤ adj.length →
   ∃ d' q', graph_steps.l1 (ints S) ((ints S).length : Int) (i : Int) d (ints q) = some (d', ints q') ∧ d'.length = adj.length ∧ (∀ k, k < adj.length → d'.getD k 0 = if k ∈ S then 0 else -1) ∧ (∀ k, k ∈ q' ↔ k ∈ S) ∧ unr d' + q'.length ≤ adj.length := by
 intro n
 induction n with
 | zero =>
  intro i d q hi hil hd hv hq hc
  rw [List.take_of_length_le (by omega)] at hv hq
  refine ⟨d, q, loopX_done ?_, hd, hv, hq, hc⟩
  simp only [graph_steps.s1, cb_dec, List.length_map]
  rw [if_neg (by omega)]
 | succ n ih =>
  intro i d q hi hil hd hv hq hc
  have hlt : i < S.length := by omega
  have hs := hS _ (List.getElem_mem hlt)
  have hil' : i < (ints S).length := by simpa using hlt
  have e : rd (0 : Int) (ints S) (i : Int) = (S[i] : Int) := by rw [rd_lt hil']; simp [ints]
  have ht : ∀ k, k ∈ S.take (i + 1) ↔ k ∈ S.take i ∨ k = S[i] := fun k => by
   rw [List.take_succ_eq_append_getElem hlt, List.mem_append, List.mem_singleton]
  by_cases hneg : d.getD S[i] 0 < 0
  ·have hni : S[i] ∉ S.take i := fun hm => by rw [hv _ hs, if_pos hm] at hneg; omega
   have hun := unr_set d S[i] 0 (by omega) hneg (by omega)
   have hint : ints (q ++ [S[i]]) = ints q ++ [(S[i] : Int)] := by simp [ints]
   obtain ⟨d', q', h1, h2⟩ := ih (i + 1) (d.set S[i] 0) (q ++ [S[i]]) (by omega) (by omega) (by simpa using hd) (fun k hk => by
    rw [getD_set _ _ _ _ _ (by omega)]
    by_cases hks : k = S[i]
    ·rw [if_pos hks, if_pos ((ht k).2 (.inr hks))]
    ·rw [if_neg hks, hv k hk]
     by_cases hk2 : k ∈ S.take i
     ·rw [if_pos hk2, if_pos ((ht k).2 (.inl hk2))]
     ·rw [if_neg hk2, if_neg (fun h => ((ht k).1 h).elim hk2 hks)]) (fun k => by
    rw [ht, List.mem_append, List.mem_singleton, hq]) (by simp only [List.length_append, List.length_cons, List.length_nil]; omega)
   refine ⟨d', q', (loopX_next ?_).trans h1, h2⟩
   simp only [graph_steps.s1, cb_dec, e, Int.toNat_natCast]
   rw [if_pos (by omega), ck_pos (by omega), ck_pos (by omega), ck_pos (by omega), if_pos hneg, ck_pos (by omega), ck_pos (by omega), ck_pos (by simp only [List.length_map, List.length_cons, List.length_nil]; omega), ck_in (by omega) (by omega), hint]
   rfl
  ·have hyi : S[i] ∈ S.take i := Classical.byContradiction fun hm => by rw [hv _ hs, if_neg hm] at hneg; omega
   obtain ⟨d', q', h1, h2⟩ := ih (i + 1) d q (by omega) (by omega) hd (fun k hk => by
    rw [hv k hk]
    by_cases hk2 : k ∈ S.take i
    ·rw [if_pos hk2, if_pos ((ht k).2 (.inl hk2))]
    ·rw [if_neg hk2, if_neg (fun h => ((ht k).1 h).elim hk2 (fun e => hk2 (e ▸ hyi)))]) (fun k => by
    rw [ht, hq]
    exact ⟨.inl, fun h => h.elim (fun h => h) (fun e => e ▸ hyi)⟩) hc
   refine ⟨d', q', (loopX_next ?_).trans h1, h2⟩
   simp only [graph_steps.s1, cb_dec, e, Int.toNat_natCast]
   rw [if_pos (by omega), ck_pos (by omega), ck_pos (by omega), ck_pos (by omega), if_neg hneg, ck_in (by omega) (by omega)]
   rfl
theorem steps_eq (hn : adj.length ≤ 1000) (hA : ∀ k y, k < adj.length → y ∈ adj.getD k [] → ∃ u : Nat, y = u ∧ u < adj.length) (hL : ∀ k, k < adj.length → (adj.getD k []).length ≤ 1000000) (hS : ∀ s ∈ S, s < adj.length) (hSl : S.length ≤ 1000000) :
  ∃ d, graph_steps.f adj (ints S) = some d ∧ d.length = adj.length ∧ Far adj.length (Ad adj) (· ∈ S) (fun k => d.getD k 0) ∧ ∀ k, k < adj.length → d.getD k 0 ≤ (adj.length : Int) := by
 obtain ⟨d0, a1, a2, a3⟩ := fillLoop hn adj.length 0 (List.replicate adj.length 0) (by omega) (by omega) (by simp) (fun k hk => absurd hk (Nat.not_lt_zero _))
 have hu0 := unr_le d0
 obtain ⟨d1, q1, b1, b2, b3, b4, b5⟩ := srcLoop (S := S) hn hS hSl S.length 0 d0 [] (by omega) (by omega) a2 (fun k hk => by rw [a3 k hk]; simp) (fun k => by simp) (by simp; omega)
 have hu1 := unr_le d1
 have hb : Bf adj S d1 q1 (fun _ => False) := by
  refine ⟨b2, fun k hk => ?_, fun k hk => ?_, fun y hy hp => ?_, fun x hx => ?_, b5, fun k hk => ?_, ?_, fun k y hk he hd hkq _ => ?_⟩
  ·rw [b3 k hk]; split <;> omega
  ·rw [b3 k hk]; split
   ·exact ⟨fun _ => by assumption, fun _ => rfl⟩
   ·exact ⟨fun h => by omega, fun h => by contradiction⟩
  ·rw [b3 y hy] at hp; split at hp <;> omega
  ·have hxs := (b4 x).1 hx
   exact ⟨hS x hxs, by rw [b3 x (hS x hxs), if_pos hxs]; omega⟩
  ·rw [b3 k hk]; split <;> omega
  ·rw [List.pairwise_iff_forall_sublist]
   intro a b hab
   have ha := (b4 a).1 (hab.subset (by simp))
   have hb' := (b4 b).1 (hab.subset (by simp))
   rw [b3 a (hS a ha), b3 b (hS b hb'), if_pos ha, if_pos hb']
   omega
  ·rw [b3 k hk] at hd
   split at hd
   ·exact absurd ((b4 k).2 (by assumption)) hkq
   ·omega
 obtain ⟨d2, o, c1, c2⟩ := outLoop hn hA hL _ d1 q1 (Nat.le_refl _) hb (fun x hx y hy => by
  have hxs := (b4 x).1 hx
  rw [b3 y hy, b3 x (hS x hxs), if_pos hxs]
  split <;> omega)
 refine ⟨d2, ?_, c2.len, ⟨c2.low, c2.src, fun k y hk he hd => c2.step k y hk he hd (by simp) (fun h => h), c2.back⟩, fun k hk => by have := c2.top k hk; omega⟩
 unfold graph_steps.f
 rw [show ((0 : Nat) : Int) = 0 from rfl] at a1 b1
 have b1' : graph_steps.l1 (ints S) ((ints S).length : Int) 0 d0 [] = some (d1, ints q1) := b1
 simp only [Int.toNat_natCast, List.length_replicate, a1, ob_s, b1', c1]
 rw [ck_pos (by omega)]
end
end Go.Proofs.YtafalbofjmfbnaaDoor
set_option linter.unusedVariables false
set_option linter.unusedSimpArgs false
namespace Go.Proofs.YtafalbofjmfbnaaDoor
open Go Go.Proofs.YtafalbofjmfbnaaDoor.Eng
section
variable {g : List Nd}
theorem ad_deps {k y : Nat} : Ad (depsA g) k y ↔ Ed g k y := by
 have : (depsA g).length = g.length := by simp [depsA]
 unfold Ad Ed D
 rw [this]
theorem ad_users {k y : Nat} (h : Right g) : Ad (usersA g) k y ↔ Ed g y k := by
 have hl : (usersA g).length = g.length := by simp [usersA]
 unfold Ad
 rw [hl]
 constructor
 ·rintro ⟨hk, hm⟩
  have e : (usersA g).getD k [] = U g g.length k := by simp [usersA, List.getD, hk]
  rw [e] at hm
  obtain ⟨q, h1, h2, h3⟩ := U_mem.1 hm
  have : y = q := by omega
  subst this
  exact ⟨h2, h3⟩
 ·intro he
  have hk := (h.ed_lt he).2
  have e : (usersA g).getD k [] = U g g.length k := by simp [usersA, List.getD, hk]
  rw [e]
  exact ⟨hk, U_mem.2 ⟨y, rfl, he.1, he.2⟩⟩
def Dir (g : List Nd) (up : Bool) : Nat → Nat → Prop := fun a b => if up then Ed g b a else Ed g a b
theorem steps_net (h : Right g) (up : Bool) {S : List Nat} (hS : ∀ s ∈ S, s < g.length) (hSl : S.length ≤ 1000) :
  ∃ d : List Int, graph_steps.f (if up then usersA g else depsA g) (ints S) = some d ∧ d.length = g.length ∧ Far g.length (Dir g up) (· ∈ S) (fun k => d.getD k 0) ∧ ∀ k, k < g.length → d.getD k 0 ≤ (g.length : Int) := by
 have hgl := h.len
 have hl : (if up then usersA g else depsA g).length = g.length := by cases up <;> simp [usersA, depsA]
 have hD : ∀ k y, Ad (if up then usersA g else depsA g) k y ↔ Dir g up k y := fun k y => by
  cases up
  ·exact ad_deps
  ·exact ad_users h
 obtain ⟨d, h1, h2, h3, h4⟩ := steps_eq (adj := if up then usersA g else depsA g) (S := S) (by omega) (fun k y hk hy => by
  rw [hl] at hk ⊢
  cases up with
  | true =>
   have e : (usersA g).getD k [] = U g g.length k := by simp [usersA, List.getD, hk]
   simp only [if_true, e] at hy
   obtain ⟨q, h1, h2, h3⟩ := U_mem.1 hy
   exact ⟨q, h1, h2⟩
  | false =>
   exact h.D_mem hk hy) (fun k hk => by
  rw [hl] at hk
  cases up with
  | true =>
   have e : (usersA g).getD k [] = U g g.length k := by simp [usersA, List.getD, hk]
   simp only [if_true, e]
   have := U_len g g.length k
   omega
  | false =>
   show (D g k).length ≤ _
   rw [D_get hk, List.length_map]
   have := (h.nd _ (List.getElem_mem hk)).1
   omega) (fun s hs => by rw [hl]; exact hS s hs) (by omega)
 rw [hl] at h2 h3 h4
 refine ⟨d, h1, h2, ⟨h3.low, h3.src, fun k y hk he => h3.step k y hk ((hD k y).2 he), fun y hy hp => ?_⟩, h4⟩
 obtain ⟨k, k1, k2, k3⟩ := h3.back y hy hp
 exact ⟨k, k1, (hD k y).1 k2, k3⟩
theorem dir_lt (h : Right g) (up : Bool) {k y : Nat} (e : Dir g up k y) : k < g.length ∧ y < g.length := by
 cases up
 ·exact h.ed_lt e
 ·exact ⟨(h.ed_lt e).2, (h.ed_lt e).1⟩
theorem dir_flip (up : Bool) : (fun x y => Dir g up y x) = Dir g (!up) := by
 funext x y
 cases up <;> rfl
theorem far_turn (h : Right g) {up : Bool} {s t : Nat} {d d' : Nat → Int} (hs : s < g.length) (ht : t < g.length) (f : Far g.length (Dir g up) (· ∈ [s]) d) (f' : Far g.length (Dir g (!up)) (· ∈ [t]) d') (h0 : 0 ≤ d t) : 0 ≤ d' s ∧ d' s ≤ d t := by
 obtain ⟨a, m, h1, h2, h3, h4⟩ := f.get ht h0
 have : a = s := List.mem_singleton.1 h2
 subst this
 have hw := h3.flip
 rw [dir_flip] at hw
 have := f'.way (fun k y e => dir_lt h _ e) ht (List.mem_singleton.2 rfl) hw
 omega
end
end Go.Proofs.YtafalbofjmfbnaaDoor
set_option linter.unusedVariables false
set_option linter.unusedSimpArgs false
namespace Go.Proofs.YtafalbofjmfbnaaDoor
open Go Go.Proofs.YtafalbofjmfbnaaDoor.Eng
def Wi (n : Nat) (d : List Int) (m : Int) : List Nat := (List.range n).filter fun k => decide (0 ≤ d.getD k 0 ∧ (m < 0 ∨ d.getD k 0 ≤ m))
theorem mem_Wi {n : Nat} {d : List Int} {m : Int} {k : Nat} : k ∈ Wi n d m ↔ k < n ∧ 0 ≤ d.getD k 0 ∧ (m < 0 ∨ d.getD k 0 ≤ m) := by
 unfold Wi
 rw [List.mem_filter, List.mem_range, decide_eq_true_eq]
theorem Wi_succ (n : Nat) (d : List Int) (m : Int) : Wi (n + 1) d m = Wi n d m ++ (if 0 ≤ d.getD n 0 ∧ (m < 0 ∨ d.getD n 0 ≤ m) then [n] else []) := by
 unfold Wi
 rw [List.range_succ, List.filter_append]
 congr 1
 by_cases h : 0 ≤ d.getD n 0 ∧ (m < 0 ∨ d.getD n 0 ≤ m)
 ·rw [if_pos h, List.filter_cons, if_pos (decide_eq_true h)]; rfl
 ·rw [if_neg h, List.filter_cons, if_neg (by simpa only [decide_eq_true_eq] using h)]; rfl
theorem Wi_len (n : Nat) (d : List Int) (m : Int) : (Wi n d m).length ≤ n := by
 have := List.length_filter_le (fun k => decide (0 ≤ d.getD k 0 ∧ (m < 0 ∨ d.getD k 0 ≤ m))) (List.range n)
 rw [List.length_range] at this
 exact this
theorem withinLoop {d : List Int} {m : Int} (hd : d.length ≤ 1000) : ∀ (n i : Nat), d.length - i = n → i ≤ d.length → graph_within.l0 m d (d.length : Int) (i : Int) (ints (Wi i d m)) = some (ints (Wi d.length d m)) := by
 intro n
 induction n with
 | zero =>
  intro i hn hi
  have e : i = d.length := by omega
  subst e
  refine loopX_done ?_
  simp only [graph_within.s0, cb_dec]
  rw [if_neg (by omega)]
 | succ n ih =>
  intro i hn hi
  have hlt : i < d.length := by omega
  have hl := Wi_len i d m
  refine (loopX_next ?_).trans (ih (i + 1) (by omega) (by omega))
  have er : rd (0 : Int) d (i : Int) = d.getD i 0 := by rw [rd_lt hlt]; simp [List.getD, hlt]
  have hadd : ints (Wi i d m) ++ [(i : Int)] = ints (Wi i d m ++ [i]) := by simp [ints]
  simp only [graph_within.s0, cb_dec, er, Wi_succ]
  rw [if_pos (by omega), ck_pos (by omega)]
  by_cases h1 : 0 ≤ d.getD i 0
  ·rw [if_pos h1]
   by_cases h2 : m < 0
   ·rw [if_pos h2, ck_pos (by simp only [List.length_map, List.length_cons, List.length_nil]; omega), ck_in (by omega) (by omega), if_pos ⟨h1, .inl h2⟩, hadd]; rfl
   ·rw [if_neg h2]
    by_cases h3 : d.getD i 0 ≤ m
    ·rw [if_pos h3, ck_pos (by simp only [List.length_map, List.length_cons, List.length_nil]; omega), ck_in (by omega) (by omega), if_pos ⟨h1, .inr h3⟩, hadd]; rfl
    ·rw [if_neg h3, ck_in (by omega) (by omega), if_neg (fun h => h.2.elim h2 h3), List.append_nil]; rfl
  ·rw [if_neg h1, ck_in (by omega) (by omega), if_neg (fun h => h1 h.1), List.append_nil]; rfl
section
variable {g : List Nd}
theorem numbers_eq (h : Right g) (dp us : List (List Int)) (a : List ByteArray) : (∃ f : Int, f ≠ 0 ∧ graph_net_numbers.f (some (g, (dp, us))) a = some ([], f)) ∨
  ∃ L : List Nat, L.length = a.length ∧ a.length ≤ 1000 ∧ (∀ x ∈ L, x < g.length) ∧ L.map (labN g) = a ∧ graph_net_numbers.f (some (g, (dp, us))) a = some (ints L, 0) := by
 unfold graph_net_numbers.f
 simp only [cb_dec]
 by_cases ha : (1000 : Int) < ((a.length : Nat) : Int)
 ·rw [if_pos ha]; exact .inl ⟨2, by decide, rfl⟩
 ·rw [if_neg ha]
  have hgl := h.len
  have go : ∀ (n i : Nat) (L : List Nat), a.length - i = n → i ≤ a.length → L.length = i → (∀ x ∈ L, x < g.length) → L.map (labN g) = a.take i →
    graph_net_numbers.l0 (some (g, (dp, us))) a (a.length : Int) (i : Int) (ints L) = some (.inl ([], 9)) ∨
    ∃ L', L'.length = a.length ∧ (∀ x ∈ L', x < g.length) ∧ L'.map (labN g) = a ∧ graph_net_numbers.l0 (some (g, (dp, us))) a (a.length : Int) (i : Int) (ints L) = some (.inr (ints L')) := by
   intro n
   induction n with
   | zero =>
    intro i L hn hi hL h1 h2
    rw [List.take_of_length_le (by omega)] at h2
    refine .inr ⟨L, by omega, h1, h2, loopX_done ?_⟩
    simp only [graph_net_numbers.s0, cb_dec]
    rw [if_neg (by omega)]
   | succ n ih =>
    intro i L hn hi hL h1 h2
    have hlt : i < a.length := by omega
    rcases h.at a[i] with ⟨h3, h4⟩
    rcases h4 with ⟨h4, _⟩ | ⟨d, h4, hd, h5⟩
    ·left
     refine loopX_done ?_
     simp only [graph_net_numbers.s0, cb_dec, rd_lt hlt, Option.isSome_some, Option.getD_some, h3, h4, ob_s]
     rw [if_pos (by omega), ck_pos (by omega), ck_pos trivial, if_pos (by omega)]
    ·have hadd : ints (L ++ [d]) = ints L ++ [(d : Int)] := by simp [ints]
     have hs : graph_net_numbers.s0 (some (g, (dp, us))) a (a.length : Int) (i : Int) (ints L) = some (.inl (((i + 1 : Nat) : Int), ints (L ++ [d]))) := by
      simp only [graph_net_numbers.s0, cb_dec, rd_lt hlt, Option.isSome_some, Option.getD_some, h3, h4, ob_s]
      rw [if_pos (by omega), ck_pos (by omega), ck_pos trivial, if_neg (by omega), ck_pos (by simp only [List.length_map, List.length_cons, List.length_nil]; omega), ck_in (by omega) (by omega), hadd]
      rfl
     rcases ih (i + 1) (L ++ [d]) (by omega) (by omega) (by simp [hL]) (fun x hx => by
       rcases List.mem_append.1 hx with hx | hx
       ·exact h1 x hx
       ·rw [List.mem_singleton.1 hx]; exact hd) (by
       rw [List.map_append, h2, List.take_succ_eq_append_getElem hlt, List.map_cons, List.map_nil, labN_get hd, h5]) with h6 | ⟨L', k1, k2, k3, k4⟩
     ·exact .inl ((loopX_next hs).trans h6)
     ·exact .inr ⟨L', k1, k2, k3, (loopX_next hs).trans k4⟩
  rcases go a.length 0 [] (by omega) (by omega) rfl (fun x hx => by cases hx) (by simp) with h1 | ⟨L', k1, k2, k3, k4⟩
  ·left
   have h1' : graph_net_numbers.l0 (some (g, (dp, us))) a (a.length : Int) 0 [] = _ := h1
   rw [h1']
   exact ⟨9, by decide, rfl⟩
  ·right
   have k4' : graph_net_numbers.l0 (some (g, (dp, us))) a (a.length : Int) 0 [] = _ := k4
   rw [k4']
   exact ⟨L', k1, by omega, k2, k3, rfl⟩
theorem within_eq (h : Right g) (up : Bool) {S : List Nat} (hS : ∀ s ∈ S, s < g.length) (hSl : S.length ≤ 1000) (m : Int) :
  ∃ d : List Int, Far g.length (Dir g up) (· ∈ S) (fun k => d.getD k 0) ∧ graph_within.f (if up then usersA g else depsA g) (ints S) m = some (ints (Wi g.length d m)) ∧ d.length = g.length ∧ graph_steps.f (if up then usersA g else depsA g) (ints S) = some d := by
 have hgl := h.len
 obtain ⟨d, h1, h2, h3, _⟩ := steps_net h up hS hSl
 refine ⟨d, h3, ?_, h2, h1⟩
 unfold graph_within.f
 have h4 := withinLoop (d := d) (m := m) (by omega) d.length 0 (by omega) (by omega)
 have h4' : graph_within.l0 m d (d.length : Int) 0 [] = some (ints (Wi d.length d m)) := h4
 simp only [h1, ob_s, h4']
 rw [h2]
theorem reached_eq (hs : ∀ n ∈ g, szNd n) (a : List ByteArray) (m : Int) (up : Bool) : (∃ f : Int, f ≠ 0 ∧ graph_reached.f g a m up = some ([], f)) ∨
  (Right g ∧ -1 ≤ m ∧ m ≤ 1000 ∧ ∃ S : List Nat, S.length = a.length ∧ a.length ≤ 1000 ∧ (∀ x ∈ S, x < g.length) ∧ S.map (labN g) = a ∧ ∃ d : List Int, Far g.length (Dir g up) (· ∈ S) (fun k => d.getD k 0) ∧
   graph_reached.f g a m up = some ((Wi g.length d m).map (labN g), 0)) := by
 unfold graph_reached.f graph_tree.f
 rcases open_eq hs with ⟨f, h1, h2⟩ | ⟨h, h2⟩
 ·rw [h2]
  simp only [ob_s, cb_not, cb_dec]
  rw [if_neg h1]
  simp only [ob_s]
  rw [if_neg h1]
  exact .inl ⟨f, h1, rfl⟩
 ·rw [h2]
  simp only [ob_s, cb_not, cb_dec, if_true]
  rcases order_eq h with ⟨R, r1, r2, r3⟩ | ⟨L, r1, r2, r3⟩
  ·left
   rw [r3]
   exact ⟨17, by decide, rfl⟩
  ·rw [r3]
   simp only [ob_s, cb_t, if_true]
   rcases numbers_eq h (depsA g) (usersA g) a with ⟨f, k1, k2⟩ | ⟨S, k1, k2, k3, k4, k5⟩
   ·rw [k2]
    simp only [ob_s]
    rw [if_neg k1]
    exact .inl ⟨f, k1, rfl⟩
   ·rw [k5]
    simp only [ob_s, if_true]
    by_cases m1 : m < -1
    ·rw [if_pos m1]; exact .inl ⟨1, by decide, rfl⟩
    ·by_cases m2 : 1000 < m
     ·rw [if_neg m1, if_pos m2]; exact .inl ⟨1, by decide, rfl⟩
     ·rw [if_neg m1, if_neg m2]
      right
      obtain ⟨d, d1, d2, d3, d4⟩ := within_eq h up (S := S) k3 (by omega) m
      have hgl := h.len
      have hwl := Wi_len g.length d m
      refine ⟨h, by omega, by omega, S, k1, k2, k3, k4, d, d1, ?_⟩
      simp only [Option.isSome_some, Option.getD_some, ck_tr]
      have hlab := labels_eq g (depsA g) (usersA g) (L := Wi g.length d m) (by omega) hgl (fun x hx => (mem_Wi.1 hx).1)
      cases up with
      | true =>
       simp only [if_true] at d2
       rw [cb_t, d2]
       simp only [ob_s, hlab]
      | false =>
       have d2' : graph_within.f (depsA g) (ints S) m = _ := d2
       rw [cb_f, d2']
       simp only [ob_s, hlab]
end
end Go.Proofs.YtafalbofjmfbnaaDoor
