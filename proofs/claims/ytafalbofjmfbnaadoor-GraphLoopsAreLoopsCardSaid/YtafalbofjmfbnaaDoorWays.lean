/-
  Plain laws over the printed functions: ways, and rings. No condition.
-/
import Derived.Test.YtafalbofjmfbnaaDoorSteps
set_option linter.unusedVariables false
set_option linter.unusedSimpArgs false
namespace Go.Proofs.YtafalbofjmfbnaaDoor
open Go Go.Proofs.YtafalbofjmfbnaaDoor.Eng
noncomputable abbrev net (g : List Nd) : Option (List Nd × (List (List Int) × List (List Int))) := some (g, (depsA g, usersA g))
section
variable {g : List Nd}
theorem deps_rd {k : Nat} (hk : k < g.length) : rd ([] : List Int) (depsA g) (k : Int) = D g k := by
 have hl : (depsA g).length = g.length := by simp [depsA]
 rw [rd_lt (by omega : k < (depsA g).length)]
 simp [D, List.getD, hl, hk]
theorem d_rd {d : List Int} {k : Nat} (hk : k < d.length) : rd (0 : Int) d (k : Int) = d.getD k 0 := by
 rw [rd_lt hk]; simp [List.getD, hk]
theorem D_len (h : Right g) {k : Nat} (hk : k < g.length) : (D g k).length ≤ 300 := by
 rw [D_get hk, List.length_map]
 exact (h.nd _ (List.getElem_mem hk)).1
theorem nextLoop (h : Right g) {d : List Int} (hd : d.length = g.length) {b : Nat} (f : Far g.length (Dir g true) (· ∈ [b]) (fun k => d.getD k 0)) (hle : ∀ k, k < g.length → d.getD k 0 ≤ (g.length : Int)) {a : Nat} (ha : a < g.length) (hp : 0 < d.getD a 0) (o : List Int) :
  ∃ k : Nat, Ed g a k ∧ d.getD k 0 = d.getD a 0 - 1 ∧ graph_net_way.l1 d (D g a) ((D g a).length : Int) (a : Int) 0 o = some ((k : Int), o) := by
 have hgl := h.len
 have hdl := D_len h ha
 have hla := hle a ha
 obtain ⟨k0, k1, k2, k3⟩ := f.back a ha hp
 have hm : (k0 : Int) ∈ D g a := k2.2
 obtain ⟨q0, hq0, hq1⟩ := List.getElem_of_mem hm
 have go : ∀ (n i : Nat), q0 - i = n → i ≤ q0 → ∃ k : Nat, Ed g a k ∧ d.getD k 0 = d.getD a 0 - 1 ∧ graph_net_way.l1 d (D g a) ((D g a).length : Int) (a : Int) (i : Int) o = some ((k : Int), o) := by
  intro n
  induction n with
  | zero =>
   intro i hn hi
   have e : i = q0 := by omega
   subst e
   refine ⟨k0, k2, k3, loopX_done ?_⟩
   simp only [graph_net_way.s1, cb_dec, rd_lt hq0, hq1]
   have k1' := d_rd (d := d) (k := k0) (by omega)
   have a1' := d_rd (d := d) (k := a) (by omega)
   rw [if_pos (by omega), ck_pos (by omega), ck_pos (by omega), k1', a1']
   rw [if_pos (by omega), ck_pos (by omega), ck_pos (by omega), ck_in (by omega) (by omega), if_pos (by omega)]
  | succ n ih =>
   intro i hn hi
   have hlt : i < (D g a).length := by omega
   obtain ⟨y, y1, y2⟩ := h.D_mem ha (List.getElem_mem hlt)
   have hy' := d_rd (d := d) (k := y) (by omega)
   have a1' := d_rd (d := d) (k := a) (by omega)
   by_cases hstop : 0 ≤ d.getD y 0 ∧ d.getD y 0 = d.getD a 0 - 1
   ·refine ⟨y, ⟨ha, by rw [← y1]; exact List.getElem_mem hlt⟩, hstop.2, loopX_done ?_⟩
    simp only [graph_net_way.s1, cb_dec, rd_lt hlt, y1]
    rw [if_pos (by omega), ck_pos (by omega), ck_pos (by omega), hy', a1', if_pos hstop.1, ck_pos (by omega), ck_pos (by omega), ck_in (by omega) (by omega), if_pos hstop.2]
   ·obtain ⟨k, e1, e2, e3⟩ := ih (i + 1) (by omega) (by omega)
    refine ⟨k, e1, e2, (loopX_next ?_).trans e3⟩
    simp only [graph_net_way.s1, cb_dec, rd_lt hlt, y1]
    rw [if_pos (by omega), ck_pos (by omega), ck_pos (by omega), hy', a1']
    by_cases hc : 0 ≤ d.getD y 0
    ·rw [if_pos hc, ck_pos (by omega), ck_pos (by omega), ck_in (by omega) (by omega), if_neg (fun e => hstop ⟨hc, e⟩), ck_in (by omega) (by omega)]; rfl
    ·rw [if_neg hc, ck_in (by omega) (by omega)]; rfl
 exact go q0 0 (by omega) (Nat.zero_le _)
structure Shortest (g : List Nd) (d : List Int) (a b : Nat) (W : List Nat) : Prop where
 len : (W.length : Int) = d.getD a 0 + 1
 lt : ∀ x ∈ W, x < g.length
 at0 : W[0]? = some a
 dist : ∀ i : Nat, ∀ hi : i < W.length, d.getD W[i] 0 = d.getD a 0 - i
 ed : ∀ i : Nat, ∀ hi : i + 1 < W.length, Ed g W[i] W[i + 1]
 last : W[W.length - 1]? = some b
theorem wayLoop (h : Right g) {d : List Int} (hd : d.length = g.length) {b : Nat} (hb : b < g.length) (f : Far g.length (Dir g true) (· ∈ [b]) (fun k => d.getD k 0)) (hle : ∀ k, k < g.length → d.getD k 0 ≤ (g.length : Int)) :
  ∀ (n : Nat) (a : Nat) (V : List Nat), a < g.length → d.getD a 0 = n → V.length + n ≤ 2000 →
   ∃ W : List Nat, graph_net_way.l0 (net g) (b : Int) d (a : Int) (ints V ++ [(a : Int)]) = some (ints V ++ ints W) ∧ Shortest g d a b W := by
 have hgl := h.len
 have hsrc : ∀ k, k < g.length → (d.getD k 0 = 0 ↔ k = b) := fun k hk => by rw [f.src k hk]; simp
 intro n
 induction n with
 | zero =>
  intro a V ha hda hV
  have e : a = b := (hsrc a ha).1 hda
  subst e
  refine ⟨[a], loopX_done ?_, ⟨by rw [hda]; rfl, fun x hx => by rw [List.mem_singleton.1 hx]; exact ha, rfl, fun i hi => ?_, fun i hi => by simp at hi, rfl⟩⟩
  ·simp only [graph_net_way.s0, decide_true, Bool.not_true, cb_f, ints, List.map_cons, List.map_nil]
  ·have : i = 0 := by simp at hi; exact hi
   subst this
   simp
 | succ n ih =>
  intro a V ha hda hV
  have hab : a ≠ b := fun e => by have := (hsrc a ha).2 e; omega
  obtain ⟨k, k1, k2, k3⟩ := nextLoop h hd f hle ha (by omega) (ints V ++ [(a : Int)])
  have hk := (h.ed_lt k1).2
  have hadd : ints V ++ [(a : Int)] = ints (V ++ [a]) := by simp [ints]
  obtain ⟨W, w1, w2⟩ := ih k (V ++ [a]) hk (by omega) (by simp; omega)
  have hdl : (depsA g).length = g.length := by simp [depsA]
  refine ⟨a :: W, (loopX_next (x' := ((k : Int), ints (V ++ [a]) ++ [(k : Int)])) ?_).trans (w1.trans ?_), ?_⟩
  ·simp only [graph_net_way.s0, cb_not, cb_dec, Option.isSome_some, Option.getD_some, ck_tr, deps_rd ha, k3, ob_s, ← hadd]
   rw [if_neg (by omega), ck_pos (by omega), ck_pos (by simp only [List.length_append, List.length_map, List.length_cons, List.length_nil]; omega)]
  ·simp [ints]
  ·have hl := w2.len
   refine ⟨by simp only [List.length_cons]; omega, fun x hx => ?_, rfl, fun i hi => ?_, fun i hi => ?_, ?_⟩
   ·rcases List.mem_cons.1 hx with e | hx
    ·rw [e]; exact ha
    ·exact w2.lt x hx
   ·cases i with
    | zero => simp
    | succ i =>
     have := w2.dist i (by simpa using hi)
     simp only [List.getElem_cons_succ, this]
     omega
   ·cases i with
    | zero =>
     have h0 := w2.at0
     have hi' : 0 < W.length := by simpa using hi
     rw [List.getElem?_eq_getElem hi'] at h0
     simp only [List.getElem_cons_zero, List.getElem_cons_succ]
     rw [Option.some.inj h0]
     exact k1
    | succ i => exact w2.ed i (by simpa using hi)
   ·have h0 := w2.last
    have hw : 0 < W.length := by omega
    simp only [List.length_cons, Nat.add_sub_cancel]
    rw [List.getElem?_cons, if_neg (by omega)]
    exact h0
theorem way_eq (h : Right g) {a b : Nat} (ha : a < g.length) (hb : b < g.length) {d : List Int} (hs : graph_steps.f (usersA g) (ints [b]) = some d) (hd : d.length = g.length) (f : Far g.length (Dir g true) (· ∈ [b]) (fun k => d.getD k 0)) (hle : ∀ k, k < g.length → d.getD k 0 ≤ (g.length : Int)) (h0 : 0 ≤ d.getD a 0) :
  ∃ W : List Nat, graph_net_way.f (net g) (a : Int) (b : Int) = some (ints W) ∧ Shortest g d a b W := by
 have hgl := h.len
 have := hle a ha
 obtain ⟨W, w1, w2⟩ := wayLoop h hd hb f hle (d.getD a 0).toNat a [] ha (by omega) (by rw [List.length_nil]; omega)
 refine ⟨W, ?_, w2⟩
 unfold graph_net_way.f
 have hs' : graph_steps.f (usersA g) [(b : Int)] = some d := hs
 have w1' : graph_net_way.l0 (net g) (b : Int) d (a : Int) [(a : Int)] = some (ints W) := w1
 simp only [Option.isSome_some, Option.getD_some, ck_tr, hs', ob_s, w1']
end
end Go.Proofs.YtafalbofjmfbnaaDoor
set_option linter.unusedVariables false
set_option linter.unusedSimpArgs false
namespace Go.Proofs.YtafalbofjmfbnaaDoor
open Go Go.Proofs.YtafalbofjmfbnaaDoor.Eng
section
variable {g : List Nd}
theorem needs_eq (h : Right g) {i : Nat} (hi : i < g.length) (s : ByteArray) : law4_needs.f g g[i].1 s = slices_Contains_string_string.f g[i].2.2.1 s := by
 have hgl := h.len
 obtain ⟨b, hb, _⟩ := contB (l := g[i].2.2.1) (by have := (h.nd _ (List.getElem_mem hi)).1; omega) s
 have go : ∀ (n k : Nat), i - k = n → k ≤ i → law4_needs.l0 g g[i].1 s (k : Int) = some (.inl b) := by
  intro n
  induction n with
  | zero =>
   intro k hn hk
   have e : k = i := by omega
   subst e
   refine loopX_done ?_
   simp only [law4_needs.s0, cb_dec, rd_lt hi]
   rw [if_pos (by omega), ck_pos (by omega), if_pos trivial, ck_pos (by omega), hb, ob_s]
  | succ n ih =>
   intro k hn hk
   have hlt : k < g.length := by omega
   refine (loopX_next ?_).trans (ih (k + 1) (by omega) (by omega))
   simp only [law4_needs.s0, cb_dec, rd_lt hlt]
   rw [if_pos (by omega), ck_pos (by omega), if_neg (fun e => by have := lab_inj h.lab hlt hi e; omega), ck_in (by omega) (by omega)]
   rfl
 unfold law4_needs.f
 have h0 := go i 0 (by omega) (Nat.zero_le _)
 rw [show ((0 : Nat) : Int) = 0 from rfl] at h0
 rw [h0, hb]; rfl
theorem needs_ed (h : Right g) {i k : Nat} (he : Ed g i k) : law4_needs.f g (labN g i) (labN g k) = some true := by
 have hl := h.ed_lt he
 rw [labN_get hl.1, labN_get hl.2, needs_eq h hl.1]
 obtain ⟨b, hb, hb2⟩ := contB (l := g[i].2.2.1) (by have := (h.nd _ (List.getElem_mem hl.1)).1; omega) g[k].1
 rw [hb, hb2.2 ((D_label h hl.1 hl.2).1 he.2)]
end
end Go.Proofs.YtafalbofjmfbnaaDoor
set_option linter.unusedVariables false
set_option linter.unusedSimpArgs false
namespace Go.Proofs.YtafalbofjmfbnaaDoor
open Go Go.Proofs.YtafalbofjmfbnaaDoor.Eng
section
variable {g : List Nd}
structure Ring (g : List Nd) (L : List Nat) : Prop where
 ne : 0 < L.length
 lt : ∀ x ∈ L, x < g.length
 ed : ∀ i : Nat, ∀ hi : i < L.length, Ed g L[i] (if h : i + 1 < L.length then L[i + 1] else L[0])
 nodup : ∀ i j : Nat, ∀ hj : j < L.length, ∀ hi : i < j, L[i] ≠ L[j]
theorem bestLoop (h : Right g) {d : List Int} (hd : d.length = g.length) {x : Nat} (hx : x < g.length) : ∀ (n i : Nat) (r : Int), (D g x).length - i = n → i ≤ (D g x).length →
  ((r = -1 ∧ ∀ y : Nat, (y : Int) ∈ (D g x).take i → d.getD y 0 < 0) ∨ ∃ k : Nat, r = k ∧ Ed g x k ∧ 0 ≤ d.getD k 0) →
  ∃ r', graph_net_loop.l1 d (D g x) ((D g x).length : Int) r (i : Int) = some r' ∧ ((r' = -1 ∧ ∀ y : Nat, (y : Int) ∈ D g x → d.getD y 0 < 0) ∨ ∃ k : Nat, r' = k ∧ Ed g x k ∧ 0 ≤ d.getD k 0) := by
 have hgl := h.len
 have hdl := D_len h hx
 intro n
 induction n with
 | zero =>
  intro i r hn hi hr
  rw [List.take_of_length_le (by omega)] at hr
  refine ⟨r, loopX_done ?_, hr⟩
  simp only [graph_net_loop.s1, cb_dec]
  rw [if_neg (by omega)]
 | succ n ih =>
  intro i r hn hi hr
  have hlt : i < (D g x).length := by omega
  obtain ⟨y, y1, y2⟩ := h.D_mem hx (List.getElem_mem hlt)
  have hE : Ed g x y := ⟨hx, by rw [← y1]; exact List.getElem_mem hlt⟩
  have hy := d_rd (d := d) (k := y) (by omega)
  have hn1 : (D g x).length - (i + 1) = n := by clear hr; omega
  have hi1 : i + 1 ≤ (D g x).length := by clear hr; omega
  have step : ∀ r' : Int, graph_net_loop.s1 d (D g x) ((D g x).length : Int) r (i : Int) = some (.inl (r', ((i + 1 : Nat) : Int))) → ((r' = -1 ∧ ∀ y : Nat, (y : Int) ∈ (D g x).take (i + 1) → d.getD y 0 < 0) ∨ ∃ k : Nat, r' = k ∧ Ed g x k ∧ 0 ≤ d.getD k 0) →
    ∃ r', graph_net_loop.l1 d (D g x) ((D g x).length : Int) r (i : Int) = some r' ∧ ((r' = -1 ∧ ∀ y : Nat, (y : Int) ∈ D g x → d.getD y 0 < 0) ∨ ∃ k : Nat, r' = k ∧ Ed g x k ∧ 0 ≤ d.getD k 0) := fun r' h1 h2 => by
   obtain ⟨r2, h3, h4⟩ := ih (i + 1) r' hn1 hi1 h2
   exact ⟨r2, (loopX_next h1).trans h3, h4⟩
  by_cases h0 : 0 ≤ d.getD y 0
  ·by_cases hr0 : r < 0
   ·refine step (y : Int) ?_ (.inr ⟨y, rfl, hE, h0⟩)
    simp only [graph_net_loop.s1, cb_dec, rd_lt hlt, y1]
    rw [if_pos (by omega), ck_pos (by omega), ck_pos (by omega), hy, if_pos h0, if_pos hr0, ck_in (by omega) (by omega)]; rfl
   ·rcases hr with ⟨hr, _⟩ | ⟨k, hr, hk1, hk2⟩
    ·omega
    ·have hkl := (h.ed_lt hk1).2
     have hk := d_rd (d := d) (k := k) (by omega)
     subst hr
     by_cases hc : d.getD y 0 < d.getD k 0
     ·refine step (y : Int) ?_ (.inr ⟨y, rfl, hE, h0⟩)
      simp only [graph_net_loop.s1, cb_dec, rd_lt hlt, y1]
      rw [if_pos (by omega), ck_pos (by omega), ck_pos (by omega), hy, if_pos h0, if_neg hr0, ck_pos (by omega), ck_pos (by omega), hk, if_pos hc, ck_in (by omega) (by omega)]; rfl
     ·refine step (k : Int) ?_ (.inr ⟨k, rfl, hk1, hk2⟩)
      simp only [graph_net_loop.s1, cb_dec, rd_lt hlt, y1]
      rw [if_pos (by omega), ck_pos (by omega), ck_pos (by omega), hy, if_pos h0, if_neg hr0, ck_pos (by omega), ck_pos (by omega), hk, if_neg hc, ck_in (by omega) (by omega)]; rfl
  ·refine step r ?_ ?_
   ·simp only [graph_net_loop.s1, cb_dec, rd_lt hlt, y1]
    rw [if_pos (by omega), ck_pos (by omega), ck_pos (by omega), hy, if_neg h0, ck_in (by omega) (by omega)]; rfl
   ·rcases hr with ⟨hr, hr2⟩ | hr
    ·refine .inl ⟨hr, fun w hw => ?_⟩
     rw [List.take_succ_eq_append_getElem hlt, List.mem_append, List.mem_singleton, y1] at hw
     rcases hw with hw | hw
     ·exact hr2 w hw
     ·have : w = y := by omega
      subst this; omega
    ·exact .inr hr
theorem ring_of {d : List Int} (h : Right g) {x k : Nat} (hx : x < g.length) (hd : d.length = g.length) (h00 : d.getD x 0 = 0) (he : Ed g x k) {W : List Nat} (w : Shortest g d k x W) : Ring g (x :: W.take (W.length - 1)) := by
 have hwl := w.len
 have hk0 : 0 ≤ d.getD k 0 ∨ d.getD k 0 < 0 := by omega
 have hw0 : 0 < W.length := by
  have := w.at0
  rcases Nat.eq_zero_or_pos W.length with h0 | h0
  ·rw [List.eq_nil_of_length_eq_zero h0] at this; cases this
  ·exact h0
 have hV : ∀ i : Nat, ∀ hi : i < (x :: W.take (W.length - 1)).length, ∃ h2 : i < (x :: W).length, (x :: W.take (W.length - 1))[i] = (x :: W)[i] := fun i hi => by
  simp only [List.length_cons, List.length_take] at hi
  refine ⟨by simp only [List.length_cons]; omega, ?_⟩
  cases i with
  | zero => rfl
  | succ i => simp
 have hlen : (x :: W.take (W.length - 1)).length = W.length := by simp; omega
 have hVe : ∀ i : Nat, ∀ hi : i + 1 < (x :: W).length, Ed g (x :: W)[i] (x :: W)[i + 1] := fun i hi => by
  cases i with
  | zero =>
   have h0 := w.at0
   rw [List.getElem?_eq_getElem hw0] at h0
   simp only [List.getElem_cons_zero, List.getElem_cons_succ]
   rw [Option.some.inj h0]; exact he
  | succ i => exact w.ed i (by simpa using hi)
 have hlast : (x :: W)[W.length]'(by simp) = x := by
  have h0 := w.last
  rw [List.getElem?_eq_getElem (by omega)] at h0
  have : (x :: W)[W.length]'(by simp) = W[W.length - 1]'(by omega) := by
   obtain ⟨m, hm⟩ : ∃ m, W.length = m + 1 := ⟨W.length - 1, by omega⟩
   simp only [hm, List.getElem_cons_succ, Nat.add_sub_cancel]
  rw [this]; exact Option.some.inj h0
 refine ⟨by simp, fun y hy => ?_, fun i hi => ?_, fun i j hj hi => ?_⟩
 ·rcases List.mem_cons.1 hy with e | hy
  ·rw [e]; exact hx
  ·exact w.lt y (List.mem_of_mem_take hy)
 ·obtain ⟨g1, g2⟩ := hV i hi
  have hi' : i + 1 < (x :: W).length := by simp only [List.length_cons]; omega
  have := hVe i hi'
  rw [g2]
  split
  ·rename_i h3
   rw [(hV (i + 1) h3).2]; exact this
  ·rename_i h3
   have e : i + 1 = W.length := by omega
   simp only [List.getElem_cons_zero]
   have : (x :: W)[i + 1] = x := by
    have := hlast
    simp only [← e] at this
    exact this
   have h5 := hVe i hi'
   rw [this] at h5
   exact h5
 ·intro e
  obtain ⟨j', rfl⟩ : ∃ j', j = j' + 1 := ⟨j - 1, by omega⟩
  have hj' : j' < W.length := by omega
  have dj : d.getD (x :: W.take (W.length - 1))[j' + 1] 0 = d.getD k 0 - j' := by
   rw [(hV _ hj).2]; exact w.dist j' hj'
  rw [← e] at dj
  cases i with
  | zero =>
   simp only [List.getElem_cons_zero] at dj
   omega
  | succ i =>
   have hi' : i < W.length := by omega
   have di : d.getD ((x :: W.take (W.length - 1))[i + 1]'(by omega)) 0 = d.getD k 0 - i := by
    rw [(hV _ (by omega)).2]; exact w.dist i hi'
   omega
theorem loopNet (h : Right g) : ∀ (n x : Nat), g.length - x = n → x ≤ g.length →
  (∃ L, Ring g L ∧ graph_net_loop.l0 (net g) (g.length : Int) (x : Int) = some (.inl (ints L))) ∨
  (graph_net_loop.l0 (net g) (g.length : Int) (x : Int) = some (.inr ()) ∧ ∀ y : Nat, x ≤ y → y < g.length → ∀ k m, Ed g y k → ¬ Go.Proofs.YtafalbofjmfbnaaDoor.Eng.Way (Ed g) k y m) := by
 have hgl := h.len
 intro n
 induction n with
 | zero =>
  intro x hn hx
  refine .inr ⟨loopX_done ?_, fun y h1 h2 => by omega⟩
  simp only [graph_net_loop.s0, cb_dec]
  rw [if_neg (by omega)]
 | succ n ih =>
  intro x hn hx
  have hlt : x < g.length := by omega
  have hdl : (depsA g).length = g.length := by simp [depsA]
  obtain ⟨d, d1, d2, d3, d4⟩ := steps_net h true (S := [x]) (fun s hs => by rw [List.mem_singleton.1 hs]; exact hlt) (by simp)
  simp only [if_true] at d1
  have d1' : graph_steps.f (usersA g) [(x : Int)] = some d := d1
  have h00 : d.getD x 0 = 0 := (d3.src x hlt).2 (List.mem_singleton.2 rfl)
  obtain ⟨r, r1, r2⟩ := bestLoop h d2 hlt _ 0 (-1) rfl (Nat.zero_le _) (.inl ⟨rfl, fun y hy => by simp at hy⟩)
  rw [show ((0 : Nat) : Int) = 0 from rfl] at r1
  rcases r2 with ⟨e, hno⟩ | ⟨k, e, hk1, hk2⟩
  ·have hs : graph_net_loop.s0 (net g) (g.length : Int) (x : Int) = some (.inl ((x + 1 : Nat) : Int)) := by
    simp only [graph_net_loop.s0, cb_dec, Option.isSome_some, Option.getD_some, ck_tr, d1', ob_s, deps_rd hlt, r1, e]
    rw [if_pos (by omega), ck_pos (by omega), if_neg (by decide), ck_in (by omega) (by omega)]; rfl
   rcases ih (x + 1) (by omega) (by omega) with ⟨L, l1, l2⟩ | ⟨l1, l2⟩
   ·exact .inl ⟨L, l1, (loopX_next hs).trans l2⟩
   ·refine .inr ⟨(loopX_next hs).trans l1, fun y h1 h2 k m he hw => ?_⟩
    by_cases hyx : y = x
    ·subst hyx
     have h3 := hno k he.2
     have h4 := d3.way (fun a b e => dir_lt h _ e) hlt (List.mem_singleton.2 rfl) hw.flip
     omega
    ·exact l2 y (by omega) h2 k m he hw
  ·subst e
   have hkl := (h.ed_lt hk1).2
   obtain ⟨W, w1, w2⟩ := way_eq h hkl hlt d1 d2 d3 d4 hk2
   have hR := ring_of h hlt d2 h00 hk1 w2
   have hWl := w2.len
   have hdk := d4 k hkl
   refine .inl ⟨_, hR, loopX_done ?_⟩
   simp only [graph_net_loop.s0, cb_dec, Option.isSome_some, Option.getD_some, ck_tr, d1', ob_s, deps_rd hlt, r1, w1, List.length_append, List.length_cons, List.length_nil, List.length_map]
   rw [if_pos (by omega), ck_pos (by omega), if_pos (by omega), ck_pos (by omega), ck_in (by omega) (by omega), ck_pos (by omega)]
   have e1 : (((0 + 1 + W.length : Nat) : Int) - 1).toNat = (W.length - 1) + 1 := by omega
   rw [e1]
   simp [ints]
theorem Ord.noloop {L : List Nat} (h : Right g) (ho : Ord g L) (hl : L.length = g.length) : ∀ x m, x < g.length → ¬ Go.Proofs.YtafalbofjmfbnaaDoor.Eng.Way (Ed g) x x (m + 1) := by
 have key : ∀ {a b m}, Go.Proofs.YtafalbofjmfbnaaDoor.Eng.Way (Ed g) a b m → ∀ p q : Nat, ∀ hp : p < L.length, ∀ hq : q < L.length, L[p] = a → L[q] = b → q + m ≤ p := by
  intro a b m hw
  induction hw with
  | nil =>
   intro p q hp hq h1 h2
   have := nodup_get ho.nodup hp hq (by rw [h1, h2])
   omega
  | @snoc b c m hw e ih =>
   intro p q hp hq h1 h2
   obtain ⟨r, hr, hre⟩ := List.getElem_of_mem (ho.all hl (h.ed_lt e).1)
   have h3 := ih p r hp hr h1 hre
   have h4 := ho.dep r hr c (by rw [hre]; exact e)
   obtain ⟨t, ht, hte⟩ := List.getElem_of_mem h4
   have htr : t < r := by have := ht; simp at this; omega
   rw [List.getElem_take] at hte
   have := nodup_get ho.nodup (by omega : t < L.length) hq (by rw [hte, h2])
   omega
 intro x m hx hw
 obtain ⟨p, hp, hpe⟩ := List.getElem_of_mem (ho.all hl hx)
 have := key hw p p hp hp hpe hpe
 omega
end
end Go.Proofs.YtafalbofjmfbnaaDoor
