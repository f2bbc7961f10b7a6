/-
  Plain laws over the printed functions: ways, and rings. No condition.
-/
import Derived.Test.YtafalbofjmfbnaaDoorSteps
set_option linter.unusedVariables false
set_option linter.unusedSimpArgs false
namespace Go.Proofs.YtafalbofjmfbnaaDoor
open Go Go.Proofs.YtafalbofjmfbnaaDoor.Eng
noncomputable abbrev net (g : List Nd) : Option (List Nd × (List (List Int) × List (List Int))) := some (g, (depsA g, usersA g))
section
variable {g : List Nd}
theorem deps_rd {k : Nat} (hk : k < g.length) : rd ([] : List Int) (depsA g) (k : Int) = D g k := by
 have hl : (depsA g).length = g.length := by simp [depsA]
 rw [rd_lt (by omega : k < (depsA g).length)]
 simp [D, List.getD, hl, hk]
theorem d_rd {d : List Int} {k : Nat} (hk : k < d.length) : rd (0 : Int) d (k : Int) = d.getD k 0 := by
 rw [rd_lt hk]; simp [List.getD, hk]
theorem D_len (h : Right g) {k : Nat} (hk : k < g.length) : (D g k).length ≤ 300 := by
 rw [D_get hk, List.length_map]
 exact (h.nd _ (List.getElem_mem hk)).1
theorem nextLoop (h : Right g) {d : List Int} (hd : d.length = g.length) {b : Nat} (f : Far g.length (Dir g true) (· ∈ [b]) (fun k => d.getD k 0)) (hle : ∀ k, k < g.length → d.getD k 0 ≤ (g.length : Int)) {a : Nat} (ha : a < g.length) (hp : 0 < d.getD a 0) (o : List Int) :
  ∃ k : Nat, Ed g a k ∧ d.getD k 0 = d.getD a 0 - 1 ∧ graph_net_way.l1 d (D g a) ((D g a).length : Int) (a : Int) 0 o = some ((k : Int), o) := by
 have hgl := h.len
 have hdl := D_len h ha
 have hla := hle a ha
 obtain ⟨k0, k1, k2, k3⟩ := f.back a ha hp
 have hm : (k0 : Int) ∈ D g a := k2.2
 obtain ⟨q0, hq0, hq1⟩ := List.getElem_of_mem hm
 have go : ∀ (n i : Nat), q0 - i = n → i ≤ q0 → ∃ k : Nat, Ed g a k ∧ d.getD k 0 = d.getD a 0 - 1 ∧ graph_net_way.l1 d (D g a) ((D g a).length : Int) (a : Int) (i : Int) o = some ((k : Int), o) := by
  intro n
  induction n with
  | zero =>
   intro i hn hi
   have e : i = q0 := by omega
   subst e
   refine ⟨k0, k2, k3, loopX_done ?_⟩
   simp only [graph_net_way.s1, cb_dec, rd_lt hq0, hq1]
   have k1' := d_rd (d := d) (k := k0) (by omega)
   have a1' := d_rd (d := d) (k := a) (by omega)
   rw [if_pos (by omega), ck_pos (by omega), ck_pos (by omega), k1', a1']
   rw [if_pos (by omega), ck_pos (by omega), ck_pos (by omega), ck_in (by omega) (by omega), if_pos (by omega)]
  | succ n ih =>
   intro i hn hi
   have hlt : i < (D g a).length := by omega
   obtain ⟨y, y1, y2⟩ := h.D_mem ha (List.getElem_mem hlt)
   have hy' := d_rd (d := d) (k := y) (by omega)
   have a1' := d_rd (d := d) (k := a) (by omega)
   by_cases hstop : 0 ≤ d.getD y 0 ∧ d.getD y 0 = d.getD a 0 - 1
   ·refine ⟨y, ⟨ha, by rw [← y1]; exact List.getElem_mem hlt⟩, hstop.2, loopX_done ?_⟩
    simp only [graph_net_way.s1, cb_dec, rd_lt hlt, y1]
    rw [if_pos (by omega), ck_pos (by omega), ck_pos (by omega), hy', a1', if_pos hstop.1, ck_pos (by omega), ck_pos (by omega), ck_in (by omega) (by omega), if_pos hstop.2]
   ·obtain ⟨k, e1, e2, e3⟩ := ih (i + 1) (by omega) (by omega)
    refine ⟨k, e1, e2, (loopX_next ?_).trans e3⟩
    simp only [graph_net_way.s1, cb_dec, rd_lt hlt, y1]
    rw [if_pos (by omega), ck_pos (by omega), ck_pos (by omega), hy', a1']
    by_cases hc : 0 ≤ d.getD y 0
    ·rw [if_pos hc, ck_pos (by omega), ck_pos (by omega), ck_in (by omega) (by omega), if_neg (fun e => hstop ⟨hc, e⟩), ck_in (by omega) (by omega)]; rfl
    ·rw [if_neg hc, ck_in (by omega) (by omega)]; rfl
 exact go q0 0 (by omega) (Nat.zero_le _)
structure Shortest (g : List Nd) (d : List Int) (a b : Nat) (W : List Nat) : Prop where
 len : (W.length : Int) = d.getD a 0 + 1
 lt : ∀ x ∈ W, x < g.length
 at0 : W[0]? = some a
 dist : ∀ i : Nat, ∀ hi : i < W.length, d.getD W[i] 0 = d.getD a 0 - i
 ed : ∀ i : Nat, ∀ hi : i + 1 < W.length, Ed g W[i] W[i + 1]
 last : W[W.length - 1]? = some b
theorem wayLoop (h : Right g) {d : List Int} (hd : d.length = g.length) {b : Nat} (hb : b < g.length) (f : Far g.length (Dir g true) (· ∈ [b]) (fun k => d.getD k 0)) (hle : ∀ k, k < g.length → d.getD k 0 ≤ (g.length : Int)) :
  ∀ (n : Nat) (a : Nat) (V : List Nat), a < g.length → d.getD a 0 = n → V.length + n ≤ 2000 →
   ∃ W : List Nat, graph_net_way.l0 (net g) (b : Int) d (a : Int) (ints V ++ [(a : Int)]) = some (ints V ++ ints W) ∧ Shortest g d a b W := by
 have hgl := h.len
 have hsrc : ∀ k, k < g.length → (d.getD k 0 = 0 ↔ k = b) := fun k hk => by rw [f.src k hk]; simp
 intro n
 induction n with
 | zero =>
  intro a V ha hda hV
  have e : a = b := (hsrc a ha).1 hda
  subst e
  refine ⟨[a], loopX_done ?_, ⟨by rw [hda]; rfl, fun x hx => by rw [List.mem_singleton.1 hx]; exact ha, rfl, fun i hi => ?_, fun i hi => by simp at hi, rfl⟩⟩
  ·simp only [graph_net_way.s0, decide_true, Bool.not_true, cb_f, ints, List.map_cons, List.map_nil]
  ·have : i = 0 := by simp at hi; exact hi
   subst this
   simp
 | succ n ih =>
  intro a V ha hda hV
  have hab : a ≠ b := fun e => by have := (hsrc a ha).2 e; omega
  obtain ⟨k, k1, k2, k3⟩ := nextLoop h hd f hle ha (by omega) (ints V ++ [(a : Int)])
  have hk := (h.ed_lt k1).2
  have hadd : ints V ++ [(a : Int)] = ints (V ++ [a]) := by simp [ints]
  obtain ⟨W, w1, w2⟩ := ih k (V ++ [a]) hk (by omega) (by simp; omega)
  have hdl : (depsA g).length = g.length := by simp [depsA]
  refine ⟨a :: W, (loopX_next (x' := ((k : Int), ints (V ++ [a]) ++ [(k : Int)])) ?_).trans (w1.trans ?_), ?_⟩
  ·simp only [graph_net_way.s0, cb_not, cb_dec, Option.isSome_some, Option.getD_some, ck_tr, deps_rd ha, k3, ob_s, ← hadd]
   rw [if_neg (by omega), ck_pos (by omega), ck_pos (by simp only [List.length_append, List.length_map, List.length_cons, List.length_nil]; omega)]
  ·simp [ints]
  ·have hl := w2.len
   refine ⟨by simp only [List.length_cons]; omega, fun x hx => ?_, rfl, fun i hi => ?_, fun i hi => ?_, ?_⟩
   ·rcases List.mem_cons.1 hx with e | hx
    ·rw [e]; exact ha
    ·exact w2.lt x hx
   ·cases i with
    | zero => simp
    | succ i =>
     have := w2.dist i (by simpa using hi)
     simp only [List.getElem_cons_succ, this]
     omega
   ·cases i with
    | zero =>
     have h0 := w2.at0
     have hi' : 0 < W.length := by simpa using hi
     rw [List.getElem?_eq_getElem hi'] at h0
     simp only [List.getElem_cons_zero, List.getElem_cons_succ]
     rw [Option.some.inj h0]
     exact k1
    | succ i => exact w2.ed i (by simpa using hi)
   ·have h0 := w2.last
    have hw : 0 < W.length := by omega
    simp only [List.length_cons, Nat.add_sub_cancel]
    rw [List.getElem?_cons, if_neg (by omega)]
    exact h0
theorem way_eq (h : Right g) {a b : Nat} (ha : a < g.length) (hb : b < g.length) {d : List Int} (hs : graph_steps.f (usersA g) (ints [b]) = some d) (hd : d.length = g.length) (f : Far g.length (Dir g true) (· ∈ [b]) (fun k => d.getD k 0)) (hle : ∀ k, k < g.length → d.getD k 0 ≤ (g.length : Int)) (h0 : 0 ≤ d.getD a 0) :
  ∃ W : List Nat, graph_net_way.f (net g) (a : Int) (b : Int) = some (ints W) ∧ Shortest g d a b W := by
 have hgl := h.len
 have := hle a ha
 obtain ⟨W, w1, w2⟩ := wayLoop h hd hb f hle (d.getD a 0).toNat a [] ha (by omega) (by rw [List.length_nil]; omega)
 refine ⟨W, ?_, w2⟩
 unfold graph_net_way.f
 have hs' : graph_steps.f (usersA g) [(b : Int)] = some d := hs
 have w1' : graph_net_way.l0 (net g) (b : Int) d (a : Int) [(a : Int)] = some (ints W) := w1
 simp only [Option.isSome_some, Option.getD_some, ck_tr, hs', ob_s, w1']
end
end Go.Proofs.YtafalbofjmfbnaaDoor
set_option linter.unusedVariables false
set_option linter.unusedSimpArgs false
namespace Go.Proofs.YtafalbofjmfbnaaDoor
open Go Go.Proofs.YtafalbofjmfbnaaDoor.Eng
section
variable {g : List Nd}
theorem needs_eq (h : Right g) {i : Nat} (hi : i < g.length) (s : ByteArray) : law4_needs.f g g[i].1 s = slices_Contains_string_string.f g[i].2.2.1 s := by
 have hgl := h.len
 obtain ⟨b, hb, _⟩ := contB (l := g[i].2.2.1) (by have := (h.nd _ (List.getElem_mem hi)).1; omega) s
 have go : ∀ (n k : Nat), i - k = n → k ≤ i → law4_needs.l0 g g[i].1 s (k : Int) = some (.inl b) := by
  intro n
  induction n with
  | zero =>
   intro k hn hk
   have e : k = i := by omega
   subst e
   refine loopX_done ?_
   simp only [law4_needs.s0, cb_dec, rd_lt hi]
   rw [if_pos (by omega), ck_pos (by omega), if_pos trivial, ck_pos (by omega), hb, ob_s]
  | succ n ih =>
   intro k hn hk
   have hlt : k < g.length := by omega
   refine (loopX_next ?_).trans (ih (k + 1) (by omega) (by omega))
   simp only [law4_needs.s0, cb_dec, rd_lt hlt]
   rw [if_pos (by omega), ck_pos (by omega), if_neg (fun e => by have := lab_inj h.lab hlt hi e; omega), ck_in (by omega) (by omega)]
   rfl
 unfold law4_needs.f
 have h0 := go i 0 (by omega) (Nat.zero_le _)
 rw [show ((0 : Nat) : Int) = 0 from rfl] at h0
 rw [h0, hb]; rfl
theorem needs_ed (h : Right g) {i k : Nat} (he : Ed g i k) : law4_needs.f g (labN g i) (labN g k) = some true := by
 have hl := h.ed_lt he
 rw [labN_get hl.1, labN_get hl.2, needs_eq h hl.1]
 obtain ⟨b, hb, hb2⟩ := contB (l := g[i].2.2.1) (by have := (h.nd _ (List.getElem_mem hl.1)).1; omega) g[k].1
 rw [hb, hb2.2 ((D_label h hl.1 hl.2).1 he.2)]
end
end Go.Proofs.YtafalbofjmfbnaaDoor
