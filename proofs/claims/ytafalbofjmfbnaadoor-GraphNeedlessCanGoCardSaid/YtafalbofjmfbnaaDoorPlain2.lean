/-
  Plain laws over the printed functions: the opened graph, its edges, its order. No condition.
-/
import Derived.Test.YtafalbofjmfbnaaDoorPlain1
set_option linter.unusedVariables false
set_option linter.unusedSimpArgs false
namespace Go.Proofs.YtafalbofjmfbnaaDoor
open Go Go.Proofs.YtafalbofjmfbnaaDoor.Eng
theorem ck_tr {β : Type} {a : Option β} : ck True a = a := ck_pos trivial
noncomputable def depsA (g : List Nd) : List (List Int) := g.map fun n => n.2.2.1.map (posI g)
noncomputable def D (g : List Nd) (i : Nat) : List Int := (depsA g).getD i []
noncomputable def U (g : List Nd) (i k : Nat) : List Int := ((List.range i).filter fun i' => decide ((k : Int) ∈ D g i')).map fun x : Nat => (x : Int)
noncomputable def usersA (g : List Nd) : List (List Int) := (List.range g.length).map fun k => U g g.length k
theorem D_get {g : List Nd} {i : Nat} (h : i < g.length) : D g i = g[i].2.2.1.map (posI g) := by
 simp [D, depsA, List.getD, h]
theorem U_succ (g : List Nd) (i k : Nat) : U g (i + 1) k = U g i k ++ (if (k : Int) ∈ D g i then [(i : Int)] else []) := by
 unfold U
 rw [List.range_succ, List.filter_append, List.map_append]
 congr 1
 by_cases h : (k : Int) ∈ D g i
 ·simp [h]
 ·simp [h]
theorem U_len (g : List Nd) (i k : Nat) : (U g i k).length ≤ i := by
 unfold U
 rw [List.length_map]
 exact Nat.le_trans (List.length_filter_le _ _) (by simp)
structure Right (g : List Nd) : Prop where
 len : g.length ≤ 1000
 lab : Rising (labs g)
 nd : ∀ n ∈ g, n.2.2.1.length ≤ 300 ∧ Rising n.2.2.1 ∧ 0 ≤ n.2.2.2.2.2 ∧ n.2.2.2.2.2 ≤ 1000000
 dep : ∀ n ∈ g, ∀ s ∈ n.2.2.1, 0 ≤ posI g s
section
variable {g : List Nd}
theorem Right.at (h : Right g) (s : ByteArray) : graph_at.f g s = some (posI g s) ∧ ((posI g s = -1 ∧ ∀ k : Nat, ∀ h : k < g.length, g[k].1 ≠ s) ∨ ∃ k : Nat, posI g s = k ∧ ∃ h : k < g.length, g[k].1 = s) := pos_ok h.len h.lab s
theorem lab_inj (h : Rising (labs g)) {i j : Nat} (hi : i < g.length) (hj : j < g.length) (e : g[i].1 = g[j].1) : i = j :=
 h.inj (by unfold labs; simpa using hi) (by unfold labs; simpa using hj) (by rw [labs_get hi, labs_get hj]; exact e)
end
structure Inv (g : List Nd) (i j : Nat) (dps usr : List (List Int)) : Prop where
 dl : dps.length = g.length
 ul : usr.length = g.length
 d : ∀ q, q < g.length → dps.getD q [] = if q < i then D g q else if q = i then (D g i).take j else []
 u : ∀ k, k < g.length → usr.getD k [] = U g i k ++ (if (k : Int) ∈ (D g i).take j then [(i : Int)] else [])
theorem Inv.next {g : List Nd} {i : Nat} {dps usr : List (List Int)} (h : Inv g i (D g i).length dps usr) : Inv g (i + 1) 0 dps usr := by
 refine ⟨h.dl, h.ul, fun q hq => ?_, fun k hk => ?_⟩
 ·rw [h.d q hq]
  rcases Nat.lt_trichotomy q i with h1 | h1 | h1
  ·rw [if_pos h1, if_pos (by omega)]
  ·subst h1; rw [if_neg (by omega), if_pos rfl, if_pos (by omega), List.take_of_length_le (Nat.le_refl _)]
  ·rw [if_neg (by omega), if_neg (by omega), if_neg (by omega)]
   split
   ·rfl
   ·rfl
 ·rw [h.u k hk, U_succ, List.take_of_length_le (Nat.le_refl _), List.take_zero]
  simp
theorem getD_set {α : Type} (l : List α) (i : Nat) (x : α) (q : Nat) (d : α) (hi : i < l.length) : (l.set i x).getD q d = if q = i then x else l.getD q d := by
 unfold List.getD
 rw [List.getElem?_set]
 by_cases h : i = q
 ·subst h; rw [if_pos rfl, if_pos hi, if_pos rfl]; rfl
 ·rw [if_neg h, if_neg (fun e => h e.symm)]
theorem Inv.step {g : List Nd} {i j d : Nat} {dps usr : List (List Int)} (h : Inv g i j dps usr) (hi : i < g.length) (hd : d < g.length) (hj : j < (D g i).length) (he : (D g i)[j] = (d : Int)) (hno : (d : Int) ∉ (D g i).take j) :
  Inv g i (j + 1) (dps.set i (dps.getD i [] ++ [(d : Int)])) (usr.set d (usr.getD d [] ++ [(i : Int)])) := by
 have ht : (D g i).take (j + 1) = (D g i).take j ++ [(d : Int)] := by rw [List.take_succ_eq_append_getElem hj, he]
 refine ⟨by simpa using h.dl, by simpa using h.ul, fun q hq => ?_, fun k hk => ?_⟩
 ·rw [getD_set _ _ _ _ _ (by rw [h.dl]; exact hi)]
  by_cases hqi : q = i
  ·subst hqi
   have := h.d q hq
   rw [if_neg (by omega), if_pos rfl] at this
   rw [if_pos rfl, if_neg (by omega), if_pos rfl, this, ht]
  ·rw [if_neg hqi, h.d q hq]
   split
   ·rfl
   ·rfl
 ·rw [getD_set _ _ _ _ _ (by rw [h.ul]; exact hd), ht]
  by_cases hkd : k = d
  ·subst hkd
   have := h.u k hk
   rw [if_neg hno, List.append_nil] at this
   rw [if_pos rfl, this, if_pos (by simp)]
  ·rw [if_neg hkd, h.u k hk]
   have e : (k : Int) ∈ (D g i).take j ++ [(d : Int)] ↔ (k : Int) ∈ (D g i).take j := by
    simp only [List.mem_append, List.mem_singleton]
    constructor
    ·intro h
     rcases h with h | h
     ·exact h
     ·exact absurd (by omega : k = d) hkd
    ·exact .inl
   by_cases hm : (k : Int) ∈ (D g i).take j
   ·rw [if_pos hm, if_pos (e.2 hm)]
   ·rw [if_neg hm, if_neg (fun h => hm (e.1 h))]
theorem rd_getD {α : Type} (l : List α) (k : Nat) (d : α) : l.getD k d = l.getD k d := rfl
theorem D_nodup {g : List Nd} (hl : g.length ≤ 1000) (hr : Rising (labs g)) {i : Nat} (hi : i < g.length) (hri : Rising g[i].2.2.1) {j : Nat} (hj : j < g[i].2.2.1.length) {d : Nat} (hp : posI g g[i].2.2.1[j] = (d : Int)) : (d : Int) ∉ (D g i).take j := by
 intro hm
 obtain ⟨q, hq, he⟩ := List.getElem_of_mem hm
 have hql : q < j := by have := hq; simp at this; omega
 have hqs : q < g[i].2.2.1.length := by omega
 rw [List.getElem_take] at he
 simp only [D_get hi, List.getElem_map] at he
 have h1 := (pos_ok hl hr g[i].2.2.1[j]).2
 have h2 := (pos_ok hl hr g[i].2.2.1[q]).2
 rcases h1 with ⟨h1, _⟩ | ⟨a, h1, ha, hb⟩
 ·omega
 ·rcases h2 with ⟨h2, _⟩ | ⟨c, h2, hc, hd⟩
  ·omega
  ·have e : a = c := by omega
   subst e
   have := hri q j hj hql
   rw [← hb, ← hd] at this
   have h0 := (cmpS_eq0 g[a].1 g[a].1).2 rfl
   omega
theorem openIn {g : List Nd} (hl : g.length ≤ 1000) (hr : Rising (labs g)) {i : Nat} (hi : i < g.length) (hn : g[i].2.2.1.length ≤ 300) (hri : Rising g[i].2.2.1) :
  ∀ (n j : Nat) (dps usr : List (List Int)), g[i].2.2.1.length - j = n → j ≤ g[i].2.2.1.length → Inv g i j dps usr →
   graph_open.l2 g (i : Int) g[i].2.2.1 (g[i].2.2.1.length : Int) (j : Int) dps usr g = some (.inl (none, 9)) ∧ (∃ s ∈ g[i].2.2.1, posI g s < 0) ∨
   ∃ dps' usr', graph_open.l2 g (i : Int) g[i].2.2.1 (g[i].2.2.1.length : Int) (j : Int) dps usr g = some (.inr (dps', usr', g)) ∧ Inv g i (D g i).length dps' usr' ∧ ∀ s ∈ g[i].2.2.1.drop j, 0 ≤ posI g s := by
 have hDl : (D g i).length = g[i].2.2.1.length := by rw [D_get hi, List.length_map]
 intro n
 induction n with
 | zero =>
  intro j dps usr hn' hj inv
  have e : j = (D g i).length := by omega
  refine .inr ⟨dps, usr, loopX_done ?_, e ▸ inv, fun s hs => ?_⟩
  ·simp only [graph_open.s2, cb_dec]
   rw [if_neg (by omega)]
  ·rw [List.drop_eq_nil_of_le (by omega)] at hs; cases hs
 | succ n ih =>
  intro j dps usr hn' hj inv
  have hlt : j < g[i].2.2.1.length := by omega
  obtain ⟨ha, hp⟩ := pos_ok hl hr g[i].2.2.1[j]
  rcases hp with ⟨hp, _⟩ | ⟨d, hp, hd, he⟩
  ·left
   refine ⟨loopX_done ?_, _, List.getElem_mem hlt, by omega⟩
   simp only [graph_open.s2, cb_dec, rd_lt hlt, ha, hp, ob_s]
   rw [if_pos (by omega), ck_pos (by omega), if_pos (by decide)]
  ·have hDj : (D g i)[j]'(by omega) = (d : Int) := by simp only [D_get hi, List.getElem_map]; exact hp
   have hno := D_nodup hl hr hi hri hlt hp
   have inv' := inv.step hi hd (by omega) hDj hno
   have c0 : 0 ≤ (j : Int) ∧ (j : Int) < (g[i].2.2.1.length : Int) := by omega
   have c1 : ¬ (d : Int) < 0 := by omega
   have hdl := inv.dl
   have hul := inv.ul
   have c2 : 0 ≤ (i : Int) ∧ (i : Int) < (dps.length : Int) := by omega
   have c3 : i < dps.length := by omega
   have hrow : (dps.getD i []).length ≤ 300 := by
    rw [inv.d i hi, if_neg (by omega), if_pos rfl, List.length_take]; omega
   have hurow : (usr.getD d []).length ≤ 1001 := by
    have := U_len g i d
    rw [inv.u d hd, List.length_append]
    split <;> simp only [List.length_cons, List.length_nil] <;> omega
   have c4 : i < dps.length ∧ ((dps.getD i []).length + [(d : Int)].length) * 8 ≤ 140737488355328 := ⟨c3, by simp only [List.length_cons, List.length_nil]; omega⟩
   have c5 : 0 ≤ (d : Int) ∧ (d : Int) < (usr.length : Int) := by omega
   have c6 : d < usr.length := by omega
   have c7 : d < usr.length ∧ ((usr.getD d []).length + [(i : Int)].length) * 8 ≤ 140737488355328 := ⟨c6, by simp only [List.length_cons, List.length_nil]; omega⟩
   have c8 : InR ((j : Int) + 1) := ⟨by omega, by omega⟩
   have hstep : graph_open.s2 g (i : Int) g[i].2.2.1 (g[i].2.2.1.length : Int) (j : Int) dps usr g = some (.inl ((j : Int) + 1, dps.set i (dps.getD i [] ++ [(d : Int)]), usr.set d (usr.getD d [] ++ [(i : Int)]), g)) := by
    simp only [graph_open.s2, cb_dec, rd_lt hlt, ha, hp, ob_s, if_pos c0.2, ck_pos c0, if_neg c1, mix_eq, Int.toNat_natCast, List.length_set, ck_pos c2, ck_pos c3, ck_pos c4, ck_pos c5, ck_pos c6, ck_pos c7, ck_pos c8, ck_rfl, both_same, ck_tr]
   rcases ih (j + 1) _ _ (by omega) (by omega) inv' with ⟨h, hb⟩ | ⟨d', u', h1, h2, h3⟩
   ·exact .inl ⟨(loopX_next hstep).trans h, hb⟩
   ·refine .inr ⟨d', u', (loopX_next hstep).trans h1, h2, fun s hs => ?_⟩
    rw [List.drop_eq_getElem_cons hlt] at hs
    rcases List.mem_cons.1 hs with rfl | hs
    ·omega
    ·exact h3 s hs
theorem openOut {g : List Nd} (hl : g.length ≤ 1000) (hr : Rising (labs g)) (hnd : ∀ n ∈ g, n.2.2.1.length ≤ 300 ∧ Rising n.2.2.1) :
  ∀ (n i : Nat) (dps usr : List (List Int)), g.length - i = n → i ≤ g.length → Inv g i 0 dps usr →
   graph_open.l1 g g (g.length : Int) (i : Int) dps usr g = some (.inl (none, 9)) ∧ (∃ n ∈ g, ∃ s ∈ n.2.2.1, posI g s < 0) ∨
   ∃ dps' usr', graph_open.l1 g g (g.length : Int) (i : Int) dps usr g = some (.inr (dps', usr', g)) ∧ Inv g g.length 0 dps' usr' ∧ ∀ n ∈ g.drop i, ∀ s ∈ n.2.2.1, 0 ≤ posI g s := by
 intro n
 induction n with
 | zero =>
  intro i dps usr hn hi inv
  have e : i = g.length := by omega
  refine .inr ⟨dps, usr, loopX_done ?_, e ▸ inv, fun s hs => ?_⟩
  ·simp only [graph_open.s1, cb_dec]
   rw [if_neg (by omega)]
  ·rw [List.drop_eq_nil_of_le (by omega)] at hs; cases hs
 | succ n ih =>
  intro i dps usr hn hi inv
  have hlt : i < g.length := by omega
  obtain ⟨h1, h2⟩ := hnd _ (List.getElem_mem hlt)
  rcases openIn hl hr hlt h1 h2 _ 0 dps usr rfl (Nat.zero_le _) inv with ⟨h, hb⟩ | ⟨d', u', h3, h4, h5⟩
  ·left
   rw [show ((0 : Nat) : Int) = 0 from rfl] at h
   refine ⟨loopX_done ?_, _, List.getElem_mem hlt, hb⟩
   simp only [graph_open.s1, cb_dec, rd_lt hlt, h, ob_s, caseS_l]
   rw [if_pos (by omega), ck_pos (by omega)]
  ·rw [show ((0 : Nat) : Int) = 0 from rfl] at h3
   have hstep : graph_open.s1 g g (g.length : Int) (i : Int) dps usr g = some (.inl ((i : Int) + 1, d', u', g)) := by
    simp only [graph_open.s1, cb_dec, rd_lt hlt, h3, ob_s, caseS_r]
    rw [if_pos (by omega), ck_pos (by omega), ck_in (by omega) (by omega)]
   rcases ih (i + 1) d' u' (by omega) (by omega) h4.next with ⟨h, hb⟩ | ⟨d2, u2, h6, h7, h8⟩
   ·exact .inl ⟨(loopX_next hstep).trans h, hb⟩
   ·refine .inr ⟨d2, u2, (loopX_next hstep).trans h6, h7, fun n' hn' => ?_⟩
    rw [List.drop_eq_getElem_cons hlt] at hn'
    rcases List.mem_cons.1 hn' with rfl | hn'
    ·simpa using h5
    ·exact h8 n' hn'
def Bad (g : List Nd) : Prop := 1000 < g.length ∨ (∃ n ∈ g, graph_checkNode.f n ≠ some 0) ∨ ¬ Rising (labs g) ∨ ∃ n ∈ g, ∃ s ∈ n.2.2.1, posI g s < 0
def ChkP (g : List Nd) (k : Nat) : Prop := ((∃ f : Int, f ≠ 0 ∧ graph_open.l0 g g (g.length : Int) (k : Int) = some (.inl (none, f))) ∧ Bad g) ∨
  (graph_open.l0 g g (g.length : Int) (k : Int) = some (.inr ()) ∧ (∀ n ∈ g.drop k, graph_checkNode.f n = some 0 ∧ n.2.2.1.length ≤ 300 ∧ Rising n.2.2.1 ∧ 0 ≤ n.2.2.2.2.2 ∧ n.2.2.2.2.2 ≤ 1000000) ∧ ∀ i : Nat, ∀ h : i + 1 < g.length, k ≤ i + 1 → cmpS (g[i]'(by omega)).1 g[i + 1].1 < 0)
theorem openChk {g : List Nd} (hl : g.length ≤ 1000) (hs : ∀ n ∈ g, szNd n) : ∀ (n k : Nat), g.length - k = n → k ≤ g.length → ChkP g k := by
 intro n
 induction n with
 | zero =>
  intro k hn hk
  refine .inr ⟨loopX_done ?_, fun s hs => ?_, fun i h hki => by omega⟩
  ·simp only [graph_open.s0, cb_dec]
   rw [if_neg (by omega)]
  ·rw [List.drop_eq_nil_of_le (by omega)] at hs; cases hs
 | succ n ih =>
  intro k hn hk
  have hlt : k < g.length := by omega
  obtain ⟨f, h1, h2⟩ := checkNode_some (hs _ (List.getElem_mem hlt))
  by_cases hf : f = 0
  ·subst hf
   have cont : (∀ h0 : 0 < k, ¬ cmpS g[k].1 (g[k - 1]'(by omega)).1 ≤ 0) → graph_open.s0 g g (g.length : Int) (k : Int) = some (.inl ((k : Int) + 1)) → ChkP g k := fun hc hstep => by
    rcases ih (k + 1) (by omega) (by omega) with ⟨⟨f, h3, h4⟩, hb⟩ | ⟨h3, h4, h5⟩
    ·exact .inl ⟨⟨f, h3, (loopX_next hstep).trans h4⟩, hb⟩
    ·refine .inr ⟨(loopX_next hstep).trans h3, fun n' hn' => ?_, fun i hi hki => ?_⟩
     ·rw [List.drop_eq_getElem_cons hlt] at hn'
      rcases List.mem_cons.1 hn' with rfl | hn'
      ·have := h2 rfl; exact ⟨h1, this.1, this.2.1, this.2.2.1, this.2.2.2.1⟩
      ·exact h4 n' hn'
     ·rcases Nat.lt_or_ge i k with h6 | h6
      ·have e : k = i + 1 := by omega
       subst e
       have h7 := hc (by omega)
       have h8 : ¬ cmpS g[i + 1].1 (g[i]'(by omega)).1 ≤ 0 := h7
       have := cmpS_swap g[i + 1].1 (g[i]'(by omega)).1
       omega
      ·exact h5 i hi (by omega)
   rcases Nat.eq_zero_or_pos k with h0 | h0
   ·subst h0
    refine cont (fun h => absurd h (Nat.lt_irrefl _)) ?_
    simp only [graph_open.s0, cb_dec, rd_lt hlt, h1, ob_s, decide_true, Bool.not_true, cb_f]
    rw [if_pos (by omega), ck_pos (by omega), if_neg (by omega), ck_in (by omega) (by omega)]
   ·obtain ⟨k', rfl⟩ : ∃ k', k = k' + 1 := ⟨k - 1, by omega⟩
    have hk' : k' < g.length := by omega
    have e : ((k' + 1 : Nat) : Int) - 1 = (k' : Int) := by omega
    by_cases hc : cmpS g[k' + 1].1 g[k'].1 ≤ 0
    ·refine .inl ⟨⟨8, by decide, loopX_done ?_⟩, .inr (.inr (.inl fun hr => by
      have h9 := hr k' (k' + 1) (by unfold labs; simpa using hlt) (Nat.lt_succ_self _)
      rw [labs_get hk', labs_get hlt] at h9
      have := cmpS_swap g[k'].1 g[k' + 1].1
      omega))⟩
     simp only [graph_open.s0, cb_dec, rd_lt hlt, h1, ob_s, decide_true, Bool.not_true, cb_f, e, rd_lt hk', leq_iff]
     rw [if_pos (by omega), ck_pos (by omega), if_pos (by omega), ck_in (by omega) (by omega), ck_pos (by omega), if_pos hc]
    ·refine cont (fun _ => hc) ?_
     simp only [graph_open.s0, cb_dec, rd_lt hlt, h1, ob_s, decide_true, Bool.not_true, cb_f, e, rd_lt hk', leq_iff]
     rw [if_pos (by omega), ck_pos (by omega), if_pos (by omega), ck_in (by omega) (by omega), ck_pos (by omega), if_neg hc, ck_in (by omega) (by omega)]
  ·refine .inl ⟨⟨f, hf, loopX_done ?_⟩, .inr (.inl ⟨_, List.getElem_mem hlt, by rw [h1]; exact fun e => hf (Option.some.inj e)⟩)⟩
   simp only [graph_open.s0, cb_dec, rd_lt hlt, h1, ob_s]
   rw [if_pos (by omega), ck_pos (by omega), decide_eq_false hf]
   rfl
theorem Inv.ends {g : List Nd} {dps usr : List (List Int)} (h : Inv g g.length 0 dps usr) : dps = depsA g ∧ usr = usersA g := by
 constructor
 ·apply List.ext_getElem (by rw [h.dl]; simp [depsA])
  intro q h1 h2
  have hq : q < g.length := by rw [← h.dl]; exact h1
  have := h.d q hq
  rw [if_pos hq] at this
  rw [List.getD, List.getElem?_eq_getElem h1, Option.getD_some] at this
  rw [this]
  simp [D, List.getD, h2]
 ·apply List.ext_getElem (by rw [h.ul]; simp [usersA])
  intro q h1 h2
  have hq : q < g.length := by rw [← h.ul]; exact h1
  have := h.u q hq
  rw [List.getD, List.getElem?_eq_getElem h1, Option.getD_some, List.take_zero] at this
  rw [this]
  simp [usersA]
theorem open_eq' {g : List Nd} (hs : ∀ n ∈ g, szNd n) : ((∃ f : Int, f ≠ 0 ∧ graph_open.f g = some (none, f)) ∧ Bad g) ∨ ((Right g ∧ graph_open.f g = some (some (g, (depsA g, usersA g)), 0)) ∧ ∀ n ∈ g, graph_checkNode.f n = some 0) := by
 unfold graph_open.f
 simp only [cb_dec]
 by_cases hl : (1000 : Int) < ((g.length : Nat) : Int)
 ·rw [if_pos hl]; exact .inl ⟨⟨2, by decide, rfl⟩, .inl (by omega)⟩
 ·rw [if_neg hl]
  have h1 := openChk (g := g) (by omega) hs g.length 0 (by omega) (by omega)
  unfold ChkP at h1
  rw [show ((0 : Nat) : Int) = 0 from rfl] at h1
  rcases h1 with ⟨⟨f, h2, h3⟩, hb⟩ | ⟨h2, h3, h4⟩
  ·rw [h3]; exact .inl ⟨⟨f, h2, rfl⟩, hb⟩
  ·rw [h2]
   simp only [ob_s, caseS_r, Int.toNat_natCast, mix_eq]
   have hlab : Rising (labs g) := rising_step fun k hk => by
    have hk' : k + 1 < g.length := by unfold labs at hk; simpa using hk
    rw [labs_get (by omega), labs_get hk']
    exact h4 k hk' (by omega)
   have hnd : ∀ n ∈ g, n.2.2.1.length ≤ 300 ∧ Rising n.2.2.1 ∧ 0 ≤ n.2.2.2.2.2 ∧ n.2.2.2.2.2 ≤ 1000000 := fun n hn => (h3 n (by simpa using hn)).2
   have c : 0 ≤ ((g.length : Nat) : Int) ∧ ((g.length : Nat) : Int) * 24 ≤ 140737488355328 := by omega
   have inv0 : Inv g 0 0 (List.replicate g.length []) (List.replicate g.length []) := by
    refine ⟨by simp, by simp, fun q hq => ?_, fun k hk => ?_⟩
    ·rw [if_neg (by omega)]
     have : (List.replicate g.length ([] : List Int)).getD q [] = [] := by rw [List.getD, List.getElem?_replicate, if_pos hq]; rfl
     rw [this]
     split <;> rfl
    ·have : (List.replicate g.length ([] : List Int)).getD k [] = [] := by rw [List.getD, List.getElem?_replicate, if_pos hk]; rfl
     rw [this]
     simp [U]
   have h5 := openOut (g := g) (by omega) hlab (fun n hn => ⟨(hnd n hn).1, (hnd n hn).2.1⟩) g.length 0 _ _ (by omega) (by omega) inv0
   rw [show ((0 : Nat) : Int) = 0 from rfl, List.drop_zero] at h5
   simp only [ck_pos c]
   rcases h5 with ⟨h5, hb⟩ | ⟨d', u', h5, h6, h7⟩
   ·rw [h5]; simp only [ob_s, caseS_l, both_same]; exact .inl ⟨⟨9, by decide, rfl⟩, .inr (.inr (.inr hb))⟩
   ·rw [h5]; simp only [ob_s, caseS_r, both_same]
    obtain ⟨rfl, rfl⟩ := h6.ends
    exact .inr ⟨⟨⟨by omega, hlab, hnd, h7⟩, rfl⟩, fun n hn => (h3 n (by simpa using hn)).1⟩
theorem open_eq {g : List Nd} (hs : ∀ n ∈ g, szNd n) : (∃ f : Int, f ≠ 0 ∧ graph_open.f g = some (none, f)) ∨ (Right g ∧ graph_open.f g = some (some (g, (depsA g, usersA g)), 0)) :=
 (open_eq' hs).imp (·.1) (·.1)
section
variable {g : List Nd}
theorem Right.D_mem (h : Right g) {i : Nat} (hi : i < g.length) {x : Int} (hx : x ∈ D g i) : ∃ d : Nat, x = d ∧ d < g.length := by
 rw [D_get hi] at hx
 obtain ⟨s, hs, rfl⟩ := List.mem_map.1 hx
 rcases (h.at s).2 with ⟨h1, _⟩ | ⟨d, h1, h2, _⟩
 ·have := h.dep _ (List.getElem_mem hi) s hs; omega
 ·exact ⟨d, h1, h2⟩
def Ed (g : List Nd) (i d : Nat) : Prop := i < g.length ∧ (d : Int) ∈ D g i
theorem Right.ed_lt (h : Right g) {i d : Nat} (e : Ed g i d) : i < g.length ∧ d < g.length := by
 obtain ⟨q, h1, h2⟩ := h.D_mem e.1 e.2
 exact ⟨e.1, by omega⟩
theorem U_mem {i k : Nat} {x : Int} : x ∈ U g i k ↔ ∃ q : Nat, x = q ∧ q < i ∧ (k : Int) ∈ D g q := by
 unfold U
 simp only [List.mem_map, List.mem_filter, List.mem_range, decide_eq_true_eq]
 constructor
 ·rintro ⟨q, ⟨h1, h2⟩, rfl⟩; exact ⟨q, rfl, h1, h2⟩
 ·rintro ⟨q, rfl, h1, h2⟩; exact ⟨q, ⟨h1, h2⟩, rfl⟩
theorem D_label (h : Right g) {i d : Nat} (hi : i < g.length) (hd : d < g.length) : (d : Int) ∈ D g i ↔ g[d].1 ∈ g[i].2.2.1 := by
 rw [D_get hi, List.mem_map]
 constructor
 ·rintro ⟨s, hs, he⟩
  rcases (h.at s).2 with ⟨h1, _⟩ | ⟨q, h1, h2, h3⟩
  ·omega
  ·have : q = d := by omega
   subst this
   rw [h3]; exact hs
 ·intro hm
  refine ⟨_, hm, ?_⟩
  rcases (h.at g[d].1).2 with ⟨h1, h2⟩ | ⟨q, h1, h2, h3⟩
  ·exact absurd rfl (h2 d hd)
  ·rw [h1, lab_inj h.lab h2 hd h3]
end
end Go.Proofs.YtafalbofjmfbnaaDoor
set_option linter.unusedVariables false
set_option linter.unusedSimpArgs false
namespace Go.Proofs.YtafalbofjmfbnaaDoor
open Go Go.Proofs.YtafalbofjmfbnaaDoor.Eng
abbrev ints (L : List Nat) : List Int := L.map fun x : Nat => (x : Int)
theorem mem_ints {L : List Nat} {k : Nat} : (k : Int) ∈ ints L ↔ k ∈ L := by
 simp only [ints, List.mem_map]
 constructor
 ·rintro ⟨x, hx, he⟩
  have : x = k := by omega
  exact this ▸ hx
 ·exact fun h => ⟨k, h, rfl⟩
def cnt (l : List Int) (L : List Nat) : Nat := (l.filter fun x => decide (x ∉ ints L)).length
theorem cnt_le (l : List Int) (L : List Nat) : cnt l L ≤ l.length := List.length_filter_le _ _
theorem cnt_pos {l : List Int} {L : List Nat} (h : 0 < cnt l L) : ∃ x, x ∈ l ∧ x ∉ ints L := by
 unfold cnt at h
 obtain ⟨x, hx⟩ := List.exists_mem_of_length_pos h
 rw [List.mem_filter] at hx
 exact ⟨x, hx.1, of_decide_eq_true hx.2⟩
theorem cnt_zero {l : List Int} {L : List Nat} (h : cnt l L = 0) : ∀ x ∈ l, x ∈ ints L := by
 intro x hx
 refine Classical.byContradiction fun hn => ?_
 unfold cnt at h
 have := List.eq_nil_of_length_eq_zero h
 have hm : x ∈ l.filter fun x => decide (x ∉ ints L) := List.mem_filter.2 ⟨hx, decide_eq_true hn⟩
 rw [this] at hm
 cases hm
theorem cnt_add {k : Nat} {L : List Nat} (hk : k ∉ L) : ∀ {l : List Int}, l.Nodup → cnt l L = cnt l (L ++ [k]) + (if (k : Int) ∈ l then 1 else 0)
 | [], _ => by simp [cnt]
 | x :: l, hn => by
  rw [List.nodup_cons] at hn
  have ih := cnt_add hk hn.2
  have e : ∀ M : List Nat, cnt (x :: l) M = (if x ∈ ints M then 0 else 1) + cnt l M := fun M => by
   unfold cnt
   rw [List.filter_cons]
   by_cases h : x ∈ ints M
   ·simp [h]
   ·simp [h]; omega
  rw [e, e, ih]
  have hin : x ∈ ints (L ++ [k]) ↔ x ∈ ints L ∨ x = (k : Int) := by
   simp only [ints, List.map_append, List.mem_append, List.map_cons, List.map_nil, List.mem_singleton]
  by_cases hx : x = (k : Int)
  ·subst hx
   have h1 : ¬ (k : Int) ∈ ints L := fun h => hk (mem_ints.1 h)
   rw [if_neg h1, if_pos (hin.2 (.inr rfl)), if_neg hn.1, if_pos (List.mem_cons_self ..)]
   omega
  ·have h2 : ((k : Int) ∈ x :: l) ↔ (k : Int) ∈ l := by
    rw [List.mem_cons]
    exact ⟨fun h => h.resolve_left (fun e => hx e.symm), .inr⟩
   by_cases h1 : x ∈ ints L
   ·rw [if_pos h1, if_pos (hin.2 (.inl h1))]
    by_cases h3 : (k : Int) ∈ l
    ·rw [if_pos h3, if_pos (h2.2 h3)]; omega
    ·rw [if_neg h3, if_neg (fun h => h3 (h2.1 h))]; omega
   ·rw [if_neg h1, if_neg (fun h => (hin.1 h).elim h1 hx)]
    by_cases h3 : (k : Int) ∈ l
    ·rw [if_pos h3, if_pos (h2.2 h3)]; omega
    ·rw [if_neg h3, if_neg (fun h => h3 (h2.1 h))]; omega
section
variable {g : List Nd}
theorem Right.nodup (h : Right g) {i : Nat} (hi : i < g.length) : (D g i).Nodup := by
 rw [List.Nodup, List.pairwise_iff_getElem]
 intro a b ha hb hab e
 have hbl : b < g[i].2.2.1.length := by rw [D_get hi, List.length_map] at hb; exact hb
 obtain ⟨d, h1, h2⟩ := h.D_mem hi (List.getElem_mem hb)
 have hp : posI g g[i].2.2.1[b] = (d : Int) := by rw [← h1]; simp [D_get hi]
 have := D_nodup h.len h.lab hi (h.nd _ (List.getElem_mem hi)).2.1 hbl hp
 refine this ?_
 rw [← h1, ← e]
 rw [List.mem_iff_getElem]
 exact ⟨a, by simp; omega, by rw [List.getElem_take]⟩
theorem pairwise_map' {α β : Type} {f : α → β} {R : α → α → Prop} {S : β → β → Prop} (hf : ∀ a b, R a b → S (f a) (f b)) {l : List α} (h : l.Pairwise R) : (l.map f).Pairwise S :=
 List.pairwise_map.2 (h.imp fun {a b} => hf a b)
theorem len_le : ∀ {M L : List Nat}, L.Nodup → (∀ x ∈ L, x ∈ M) → L.length ≤ M.length
 | [], L, _, h => by
  cases L with
  | nil => exact Nat.le_refl _
  | cons a l => cases h a (List.mem_cons_self ..)
 | m :: M, L, hn, h => by
  have h1 : (L.erase m).Nodup := hn.erase m
  have h2 := len_le (M := M) h1 (fun x hx => by
   rcases List.mem_cons.1 (h x (List.mem_of_mem_erase hx)) with he | he
   ·subst he
    exact absurd hx (hn.not_mem_erase)
   ·exact he)
  have h3 : L.length ≤ (L.erase m).length + 1 := by
   by_cases hm : m ∈ L
   ·rw [List.length_erase_of_mem hm]; omega
   ·rw [List.erase_of_not_mem hm]; omega
  simp only [List.length_cons]; omega
theorem U_nodup (i k : Nat) : (U g i k).Nodup := by
 unfold U
 exact pairwise_map' (fun a b h e => h (by omega)) (List.nodup_range.filter _)
theorem findLoop (left : List Int) (done : List Bool) (out : List Int) (hd : done.length = left.length) (hl : left.length ≤ 1000) : ∀ (n k : Nat), left.length - k = n → k ≤ left.length → (∀ q : Nat, q < k → done.getD q false = true ∨ 0 < left.getD q 0) →
  ∃ c : Nat, graph_net_order.l2 (k : Int) left done out = some ((c : Int), left, done, out) ∧ c ≤ left.length ∧ (∀ q : Nat, q < c → done.getD q false = true ∨ 0 < left.getD q 0) ∧ (c < left.length → done.getD c false = false ∧ ¬ 0 < left.getD c 0) := by
 intro n
 induction n with
 | zero =>
  intro k hn hk hb
  refine ⟨k, loopX_done ?_, hk, hb, fun h => by omega⟩
  simp only [graph_net_order.s2, cb_dec]
  rw [if_neg (by omega)]
 | succ n ih =>
  intro k hn hk hb
  have hlt : k < left.length := by omega
  by_cases hstop : done.getD k false = false ∧ ¬ 0 < left.getD k 0
  ·refine ⟨k, loopX_done ?_, hk, hb, fun _ => hstop⟩
   simp only [graph_net_order.s2, cb_dec, Int.toNat_natCast]
   rw [if_pos (by omega), ck_pos (by omega), ck_pos (by omega), hstop.1, cb_f, ck_pos (by omega), ck_pos hlt, if_neg hstop.2]
  ·obtain ⟨c, h1, h2⟩ := ih (k + 1) (by omega) (by omega) (fun q hq => by
    rcases Nat.lt_or_ge q k with h | h
    ·exact hb q h
    ·have : q = k := by omega
     subst this
     cases hc : done.getD q false with
     | true => exact .inl rfl
     | false => exact .inr (Classical.byContradiction fun h => hstop ⟨hc, h⟩))
   refine ⟨c, (loopX_next ?_).trans h1, h2⟩
   simp only [graph_net_order.s2, cb_dec, Int.toNat_natCast]
   rw [if_pos (by omega), ck_pos (by omega), ck_pos (by omega)]
   cases hc : done.getD k false with
   | true => rw [cb_t, ck_in (by omega) (by omega)]; rfl
   | false =>
    rw [cb_f, ck_pos (by omega), ck_pos hlt, if_pos (Classical.byContradiction fun h => hstop ⟨hc, h⟩), ck_in (by omega) (by omega)]; rfl
theorem tellLoop (h : Right g) {L : List Nat} {k : Nat} (hk : k < g.length) (hkL : k ∉ L) (done : List Bool) (out o3 : List Int) :
  ∀ (n j : Nat) (left : List Int), (U g g.length k).length - j = n → j ≤ (U g g.length k).length → left.length = g.length → (∀ u : Nat, u < g.length → left.getD u 0 = (cnt (D g u) L : Int) - (if (u : Int) ∈ (U g g.length k).take j then 1 else 0)) →
   ∃ left', graph_net_order.l3 (U g g.length k) ((U g g.length k).length : Int) (j : Int) left done out o3 = some (left', done, out, o3) ∧ left'.length = g.length ∧ ∀ u : Nat, u < g.length → left'.getD u 0 = (cnt (D g u) (L ++ [k]) : Int) := by
 have hU := U_len g g.length k
 have hgl := h.len
 intro n
 induction n with
 | zero =>
  intro j left hn hj hl hv
  refine ⟨left, loopX_done ?_, hl, fun u hu => ?_⟩
  ·simp only [graph_net_order.s3, cb_dec]
   rw [if_neg (by omega)]
  ·have h1 := hv u hu
   rw [List.take_of_length_le (by omega)] at h1
   have h2 := cnt_add hkL (h.nodup hu)
   by_cases hm : (k : Int) ∈ D g u
   ·rw [if_pos hm] at h2
    rw [if_pos (U_mem.2 ⟨u, rfl, hu, hm⟩)] at h1
    omega
   ·rw [if_neg hm] at h2
    rw [if_neg (fun hx => by
     obtain ⟨q, h3, h4, h5⟩ := U_mem.1 hx
     have : q = u := by omega
     exact hm (this ▸ h5))] at h1
    omega
 | succ n ih =>
  intro j left hn hj hl hv
  have hlt : j < (U g g.length k).length := by omega
  obtain ⟨u, hu1, hu2, hu3⟩ := U_mem.1 (List.getElem_mem hlt)
  have hnm : (u : Int) ∉ (U g g.length k).take j := fun hm => by
   obtain ⟨q, hq, he⟩ := List.getElem_of_mem hm
   have hql : q < j := by have := hq; simp at this; omega
   rw [List.getElem_take] at he
   have hnd := U_nodup (g := g) g.length k
   rw [List.Nodup, List.pairwise_iff_getElem] at hnd
   exact hnd q j (by omega) hlt hql (by rw [he, hu1])
  have hv0 := hv u hu2
  rw [if_neg hnm] at hv0
  have hcl := cnt_le (D g u) L
  have hDl : (D g u).length ≤ 300 := by rw [D_get hu2, List.length_map]; exact (h.nd _ (List.getElem_mem hu2)).1
  obtain ⟨left', h1, h2, h3⟩ := ih (j + 1) (left.set u (left.getD u 0 - 1)) (by omega) (by omega) (by simpa using hl) (fun q hq => by
   rw [getD_set _ _ _ _ _ (by omega), List.take_succ_eq_append_getElem hlt]
   by_cases hqu : q = u
   ·subst hqu
    rw [if_pos rfl, hv0, if_pos (by simp [hu1])]
    omega
   ·rw [if_neg hqu, hv q hq]
    have e : (q : Int) ∈ (U g g.length k).take j ++ [(U g g.length k)[j]] ↔ (q : Int) ∈ (U g g.length k).take j := by
     rw [List.mem_append, List.mem_singleton, hu1]
     exact ⟨fun h => h.resolve_right (fun e => hqu (by omega)), .inl⟩
    by_cases hm : (q : Int) ∈ (U g g.length k).take j
    ·rw [if_pos hm, if_pos (e.2 hm)]
    ·rw [if_neg hm, if_neg (fun h => hm (e.1 h))])
  refine ⟨left', (loopX_next ?_).trans h1, h2, h3⟩
  simp only [graph_net_order.s3, cb_dec, rd_lt hlt, hu1, Int.toNat_natCast]
  rw [if_pos (by omega), ck_pos (by omega), ck_pos (by omega), ck_pos (by omega), ck_in (by omega) (by omega), ck_pos (by omega), ck_pos (by omega), ck_in (by omega) (by omega)]
  rfl
structure Ord (g : List Nd) (L : List Nat) : Prop where
 nodup : L.Nodup
 lt : ∀ x ∈ L, x < g.length
 dep : ∀ p : Nat, ∀ hp : p < L.length, ∀ d : Nat, Ed g L[p] d → d ∈ L.take p
theorem nodup_len {n : Nat} {L : List Nat} (hn : L.Nodup) (hl : ∀ x ∈ L, x < n) : L.length ≤ n := by
 have h := len_le (M := List.range n) hn (fun x hx => List.mem_range.2 (hl x hx))
 simpa using h
theorem missing {n : Nat} {L : List Nat} (hl : L.length < n) : ∃ x, x < n ∧ x ∉ L := by
 refine Classical.byContradiction fun hno => ?_
 have this := len_le (M := L) (List.nodup_range (n := n)) (fun x hx => Classical.byContradiction fun h => hno ⟨x, List.mem_range.1 hx, h⟩)
 simp at this
 omega
theorem nodup_get {L : List Nat} (h : L.Nodup) {i j : Nat} (hi : i < L.length) (hj : j < L.length) (e : L[i] = L[j]) : i = j := by
 rw [List.Nodup, List.pairwise_iff_getElem] at h
 rcases Nat.lt_trichotomy i j with h1 | h1 | h1
 ·exact absurd e (h i j hi hj h1)
 ·exact h1
 ·exact absurd e.symm (h j i hj hi h1)
theorem orderLoop (h : Right g) : ∀ (n : Nat) (L : List Nat) (left : List Int) (done : List Bool), g.length - L.length = n → Ord g L → left.length = g.length → done.length = g.length → (∀ k : Nat, k < g.length → done.getD k false = decide (k ∈ L)) → (∀ u : Nat, u < g.length → left.getD u 0 = (cnt (D g u) L : Int)) →
  (∃ R : List Nat, R ≠ [] ∧ (∀ x ∈ R, ∃ y, y ∈ R ∧ Ed g x y) ∧ graph_net_order.l1 (some (g, (depsA g, usersA g))) left done (ints L) = some (.inl ([], false))) ∨
  ∃ L' left' done', Ord g L' ∧ L'.length = g.length ∧ graph_net_order.l1 (some (g, (depsA g, usersA g))) left done (ints L) = some (.inr (left', done', ints L')) := by
 intro n
 induction n with
 | zero =>
  intro L left done hn ho hl hd hdv hlv
  have := nodup_len ho.nodup ho.lt
  refine .inr ⟨L, left, done, ho, by omega, loopX_done ?_⟩
  simp only [graph_net_order.s1, cb_dec, Option.isSome_some, Option.getD_some, List.length_map]
  rw [ck_pos trivial, if_neg (by omega)]
 | succ n ih =>
  intro L left done hn ho hl hd hdv hlv
  have hgl := h.len
  have hlen := nodup_len ho.nodup ho.lt
  obtain ⟨c, h1, h2, h3, h4⟩ := findLoop left done (ints L) (by omega) (by omega) left.length 0 (by omega) (by omega) (fun q hq => by omega)
  rw [show ((0 : Nat) : Int) = 0 from rfl] at h1
  by_cases hc : c = left.length
  ·left
   refine ⟨(List.range g.length).filter fun x => decide (x ∉ L), fun he => ?_, fun x hx => ?_, loopX_done ?_⟩
   ·obtain ⟨x, hx1, hx2⟩ := missing (n := g.length) (L := L) (by omega)
    have : x ∈ (List.range g.length).filter fun x => decide (x ∉ L) := List.mem_filter.2 ⟨List.mem_range.2 hx1, decide_eq_true hx2⟩
    rw [he] at this; cases this
   ·rw [List.mem_filter, List.mem_range, decide_eq_true_eq] at hx
    have h5 := h3 x (by omega)
    rw [hdv x hx.1, hlv x hx.1] at h5
    rcases h5 with h5 | h5
    ·exact absurd (of_decide_eq_true h5) hx.2
    ·obtain ⟨y, hy1, hy2⟩ := cnt_pos (l := D g x) (L := L) (by omega)
     obtain ⟨d, rfl, hd'⟩ := h.D_mem hx.1 hy1
     exact ⟨d, List.mem_filter.2 ⟨List.mem_range.2 hd', decide_eq_true (fun hm => hy2 (mem_ints.2 hm))⟩, hx.1, hy1⟩
   ·simp only [graph_net_order.s1, cb_dec, Option.isSome_some, Option.getD_some, List.length_map]
    rw [ck_pos trivial, if_pos (by omega), h1, ob_s]
    simp only
    rw [if_pos (by rw [hc])]
  ·have hcl : c < g.length := by omega
   obtain ⟨h5, h6⟩ := h4 (by omega)
   rw [hdv c hcl] at h5
   rw [hlv c hcl] at h6
   have hcL : c ∉ L := of_decide_eq_false h5
   have hUl := U_len g g.length c
   have hug : (usersA g).length = g.length := by simp [usersA]
   have hur : rd ([] : List Int) (usersA g) (c : Int) = U g g.length c := by
    rw [rd_lt (by rw [hug]; exact hcl)]
    simp [usersA]
   obtain ⟨left', h7, h8, h9⟩ := tellLoop h hcl hcL (done.set c true) (ints L ++ [(c : Int)]) [(c : Int)] _ 0 left rfl (Nat.zero_le _) hl (fun u hu => by rw [hlv u hu, List.take_zero, if_neg (by simp)]; omega)
   rw [show ((0 : Nat) : Int) = 0 from rfl] at h7
   have ho' : Ord g (L ++ [c]) := by
    refine ⟨?_, fun x hx => ?_, fun p hp d he => ?_⟩
    ·rw [List.nodup_append]
     refine ⟨ho.nodup, by simp, fun a ha b hb => ?_⟩
     rw [List.mem_singleton.1 hb]
     exact fun e => hcL (e ▸ ha)
    ·rcases List.mem_append.1 hx with h | h
     ·exact ho.lt x h
     ·rw [List.mem_singleton.1 h]; exact hcl
    ·rcases Nat.lt_or_ge p L.length with hpl | hpl
     ·rw [List.getElem_append_left hpl] at he
      rw [List.take_append_of_le_length (by omega)]
      exact ho.dep p hpl d he
     ·have hpe : p = L.length := by simp at hp; omega
      subst hpe
      rw [List.getElem_append_right (Nat.le_refl _)] at he
      simp only [Nat.sub_self, List.getElem_cons_zero] at he
      rw [List.take_append_of_le_length (Nat.le_refl _), List.take_of_length_le (Nat.le_refl _)]
      have hz : cnt (D g c) L = 0 := by omega
      exact mem_ints.1 (cnt_zero hz _ he.2)
   have hint : ints (L ++ [c]) = ints L ++ [(c : Int)] := by simp [ints]
   have hstep : graph_net_order.s1 (some (g, (depsA g, usersA g))) left done (ints L) = some (.inl (left', done.set c true, ints (L ++ [c]))) := by
    simp only [graph_net_order.s1, cb_dec, Option.isSome_some, Option.getD_some, List.length_map]
    rw [ck_pos trivial, if_pos (by omega), h1, ob_s]
    simp only [Int.toNat_natCast]
    rw [if_neg (by omega), ck_pos (by omega), ck_pos (by omega), ck_pos (by simp only [List.length_cons, List.length_nil, List.length_map]; omega), ck_pos trivial, ck_pos (by rw [hug]; omega), hur, h7, ob_s, hint]
   rcases ih (L ++ [c]) left' (done.set c true) (by simp; omega) ho' h8 (by simpa using hd) (fun q hq => by
    rw [getD_set _ _ _ _ _ (by omega)]
    by_cases hqc : q = c
    ·subst hqc; rw [if_pos rfl]; simp
    ·rw [if_neg hqc, hdv q hq]
     exact decide_eq_decide.2 (by simp [hqc])) h9 with ⟨R, r1, r2, r3⟩ | ⟨L', l', d', r1, r2, r3⟩
   ·exact .inl ⟨R, r1, r2, (loopX_next hstep).trans r3⟩
   ·exact .inr ⟨L', l', d', r1, r2, (loopX_next hstep).trans r3⟩
theorem leftLoop (h : Right g) : ∀ (n i : Nat) (left : List Int), g.length - i = n → i ≤ g.length → left.length = g.length → (∀ u : Nat, u < g.length → left.getD u 0 = if u < i then ((D g u).length : Int) else 0) →
  ∃ left', graph_net_order.l0 (depsA g) ((depsA g).length : Int) (i : Int) left = some left' ∧ left'.length = g.length ∧ ∀ u : Nat, u < g.length → left'.getD u 0 = ((D g u).length : Int) := by
 have hdl : (depsA g).length = g.length := by simp [depsA]
 have hgl := h.len
 intro n
 induction n with
 | zero =>
  intro i left hn hi hl hv
  refine ⟨left, loopX_done ?_, hl, fun u hu => by rw [hv u hu, if_pos (by omega)]⟩
  simp only [graph_net_order.s0, cb_dec]
  rw [if_neg (by omega)]
 | succ n ih =>
  intro i left hn hi hl hv
  have hlt : i < (depsA g).length := by omega
  have hD : (depsA g)[i] = D g i := by simp [D, List.getD, hlt]
  obtain ⟨l', h1, h2, h3⟩ := ih (i + 1) (left.set i ((D g i).length : Int)) (by omega) (by omega) (by simpa using hl) (fun u hu => by
   rw [getD_set _ _ _ _ _ (by omega)]
   by_cases hui : u = i
   ·subst hui; rw [if_pos rfl, if_pos (by omega)]
   ·rw [if_neg hui, hv u hu]
    by_cases h4 : u < i
    ·rw [if_pos h4, if_pos (by omega)]
    ·rw [if_neg h4, if_neg (by omega)])
  refine ⟨l', (loopX_next ?_).trans h1, h2, h3⟩
  simp only [graph_net_order.s0, cb_dec, rd_lt hlt, hD, Int.toNat_natCast]
  rw [if_pos (by omega), ck_pos (by omega), ck_pos (by omega), ck_pos (by omega), ck_in (by omega) (by omega)]
  rfl
theorem order_eq (h : Right g) : (∃ R : List Nat, R ≠ [] ∧ (∀ x ∈ R, ∃ y, y ∈ R ∧ Ed g x y) ∧ graph_net_order.f (some (g, (depsA g, usersA g))) = some ([], false)) ∨
  ∃ L, Ord g L ∧ L.length = g.length ∧ graph_net_order.f (some (g, (depsA g, usersA g))) = some (ints L, true) := by
 have hgl := h.len
 obtain ⟨left, h1, h2, h3⟩ := leftLoop h g.length 0 (List.replicate g.length 0) (by omega) (by omega) (by simp) (fun u hu => by
  rw [if_neg (by omega), List.getD, List.getElem?_replicate, if_pos hu]; rfl)
 rw [show ((0 : Nat) : Int) = 0 from rfl] at h1
 have h4 := orderLoop h g.length [] left (List.replicate g.length false) (by simp) ⟨List.nodup_nil, (fun x hx => by cases hx), fun p hp => absurd hp (Nat.not_lt_zero _)⟩ h2 (by simp) (fun k hk => by
  rw [List.getD, List.getElem?_replicate, if_pos hk]; simp) (fun u hu => by
  rw [h3 u hu]
  have : cnt (D g u) [] = (D g u).length := by simp [cnt, ints]
  rw [this])
 unfold graph_net_order.f
 simp only [Option.isSome_some, Option.getD_some, Int.toNat_natCast]
 rw [ck_pos trivial, ck_pos (by omega), ck_pos trivial, h1, ob_s, ck_pos trivial, ck_pos (by omega)]
 rcases h4 with ⟨R, r1, r2, r3⟩ | ⟨L', l', d', r1, r2, r3⟩
 ·left
  refine ⟨R, r1, r2, ?_⟩
  have r3' : graph_net_order.l1 (some (g, (depsA g, usersA g))) left (List.replicate g.length false) [] = _ := r3
  rw [r3']; rfl
 ·right
  refine ⟨L', r1, r2, ?_⟩
  have r3' : graph_net_order.l1 (some (g, (depsA g, usersA g))) left (List.replicate g.length false) [] = _ := r3
  rw [r3']; rfl
end
end Go.Proofs.YtafalbofjmfbnaaDoor
set_option linter.unusedVariables false
set_option linter.unusedSimpArgs false
namespace Go.Proofs.YtafalbofjmfbnaaDoor
open Go Go.Proofs.YtafalbofjmfbnaaDoor.Eng
abbrev ND0 : Nd := (ByteArray.empty, (ByteArray.empty, (([] : List ByteArray), (([] : List ByteArray), (([] : List ByteArray), (0 : Int))))))
def labN (g : List Nd) (k : Nat) : ByteArray := (g.getD k ND0).1
theorem labN_get {g : List Nd} {k : Nat} (h : k < g.length) : labN g k = g[k].1 := by simp [labN, List.getD, h]
theorem labN_inj {g : List Nd} (h : Right g) {i j : Nat} (hi : i < g.length) (hj : j < g.length) (e : labN g i = labN g j) : i = j :=
 lab_inj h.lab hi hj (by rw [← labN_get hi, ← labN_get hj, e])
theorem labels_eq (g : List Nd) (dp us : List (List Int)) {L : List Nat} (hl : L.length ≤ 100000) (hg : g.length ≤ 1000) (h : ∀ x ∈ L, x < g.length) :
  graph_net_labels.f (some (g, (dp, us))) (ints L) = some (L.map (labN g)) := by
 have go : ∀ (n i : Nat) (o : List ByteArray), L.length - i = n → i ≤ L.length → o.length = i →
   graph_net_labels.l0 (some (g, (dp, us))) (ints L) ((ints L).length : Int) (i : Int) o = some (o ++ (L.drop i).map (labN g)) := by
  intro n
  induction n with
  | zero =>
   intro i o hn hi ho
   rw [List.drop_eq_nil_of_le (by omega), List.map_nil, List.append_nil]
   refine loopX_done ?_
   simp only [graph_net_labels.s0, cb_dec, List.length_map]
   rw [if_neg (by omega)]
  | succ n ih =>
   intro i o hn hi ho
   have hlt : i < L.length := by omega
   have hx := h _ (List.getElem_mem hlt)
   have hil : i < (ints L).length := by simpa using hlt
   have e : rd (0 : Int) (ints L) (i : Int) = (L[i] : Int) := by rw [rd_lt hil]; simp [ints]
   have h2 := ih (i + 1) (o ++ [labN g L[i]]) (by omega) (by omega) (by simp [ho])
   rw [List.append_assoc, List.singleton_append, ← List.map_cons, ← List.drop_eq_getElem_cons hlt] at h2
   refine (loopX_next ?_).trans h2
   simp only [graph_net_labels.s0, cb_dec, e, Option.isSome_some, Option.getD_some]
   rw [if_pos (by omega), ck_pos (by omega), ck_pos trivial, ck_pos (by omega), ck_pos (by simp only [List.length_cons, List.length_nil]; omega), ck_in (by omega) (by omega), rd_lt hx, labN_get hx]
   rfl
 unfold graph_net_labels.f
 have := go L.length 0 [] (by omega) (by omega) rfl
 rw [List.drop_zero, List.nil_append] at this
 rw [show (0 : Int) = ((0 : Nat) : Int) from rfl]
 simp only [this, ob_s]
theorem Order_eq {g : List Nd} (hs : ∀ n ∈ g, szNd n) : (∃ f : Int, f ≠ 0 ∧ graph_Order.f g = some ([], f)) ∨
  (Right g ∧ ∃ L, Ord g L ∧ L.length = g.length ∧ graph_Order.f g = some (L.map (labN g), 0)) := by
 unfold graph_Order.f graph_tree.f
 rcases open_eq hs with ⟨f, h1, h2⟩ | ⟨h, h2⟩
 ·rw [h2]
  simp only [ob_s, cb_not, cb_dec]
  rw [if_neg h1]
  simp only [ob_s]
  rw [if_neg h1]
  exact .inl ⟨f, h1, rfl⟩
 ·rw [h2]
  simp only [ob_s, cb_not, cb_dec, if_true]
  rcases order_eq h with ⟨R, r1, r2, r3⟩ | ⟨L, r1, r2, r3⟩
  ·left
   rw [r3]
   exact ⟨17, by decide, rfl⟩
  ·right
   rw [r3]
   refine ⟨h, L, r1, r2, ?_⟩
   have hg := h.len
   simp only [ob_s, cb_t, if_true, labels_eq g _ _ (by omega) hg r1.lt]
theorem Ord.all {g : List Nd} {L : List Nat} (h : Ord g L) (hl : L.length = g.length) {i : Nat} (hi : i < g.length) : i ∈ L := by
 refine Classical.byContradiction fun hn => ?_
 have := nodup_len (n := g.length) (L := i :: L) (List.nodup_cons.2 ⟨hn, h.nodup⟩) (fun x hx => by
  rcases List.mem_cons.1 hx with h' | h'
  ·rw [h']; exact hi
  ·exact h.lt x h')
 simp at this
 omega
theorem ck_dec {β : Type} {c : Prop} [h : Decidable c] {a : Option β} : ck c a = if c then a else none := by
 unfold ck
 by_cases hc : c <;> simp [hc]
local instance (x : Int) : Decidable (InR x) := inferInstanceAs (Decidable (_ ∧ _))
def bs_97 : ByteArray := ⟨#[97]⟩
def bs_58_97 : ByteArray := ⟨#[58, 97]⟩
def one : List Nd := [(bs_47_47_58_97, (bs_107, ([], ([], ([], 0)))))]
theorem split_one : splitL bs_97 = [bs_97] := by
 have h : strings_Split.f bs_97 bs_47 = some [bs_97] := by
  have l : strings_genSplit.l0 bs_47 0 (1 - 1) bs_97 0 (List.replicate 1 ByteArray.empty) = some (bs_97, 0, List.replicate 1 ByteArray.empty) := loopX_of (n := 1) rfl
  have c : strings_Count.f bs_97 bs_47 = some 0 := by
   show ck _ _ = _
   rw [ck_pos (by rfl)]; rfl
  unfold strings_Split.f strings_genSplit.f
  simp only [c, ob_s, ck_dec]
  have e : ((min (0 + 1) (((bs_97.size : Nat) : Int) + 1) : Int)) = 1 := rfl
  simp only [e]
  have e1 : Int.toNat 1 = 1 := rfl
  simp only [e1, l, ob_s, ck_dec]
  rfl
 unfold splitL
 rw [h]; rfl
theorem whole_one : script_IsWhole.f bs_47_47_58_97 = some true := by
 have c1 : cutP bs_47_47_58_97 bs_47_47 = (bs_58_97, true) := by rfl
 have c2 : cut58 bs_58_97 = (bs_, bs_97, true) := by rfl
 have c3 : labF (bs_, bs_97) = 0 := by
  unfold labF isPathB
  rw [split_one]
  rfl
 have r : script_ReadLabel.f bs_47_47_58_97 bs_ = some ((bs_, bs_97), 0) := by
  unfold script_ReadLabel.f
  simp only [decide_true, Bool.not_true, cb_f, cutPrefix_eq, ob_s, c1, cb_t]
  rw [cut_eq (by decide), c2]
  simp only [ob_s, Bool.not_true, cb_f, checkLabel_eq, c3]
  rfl
 unfold script_IsWhole.f
 rw [r, ob_s]
 have w : script_Whole.f (bs_, bs_97) = some bs_47_47_58_97 := by
  unfold script_Whole.f
  have e1 : bs_47_47.size = 2 := rfl
  have e2 : bs_58.size = 1 := rfl
  have e3 : bs_.size = 0 := rfl
  have e4 : bs_97.size = 1 := rfl
  simp only [ByteArray.size_append, e1, e2, e3, e4]
  rw [ck_pos (by omega), ck_pos (by omega), ck_pos (by omega)]
  exact congrArg some (by decide)
 rw [w, ob_s]
 rfl
theorem name_one : script_IsName.f bs_107 = some true := by
 have l : script_IsName.l0 bs_107 1 0 = some (.inr ()) := by
  refine (loopX_next (x' := 1) ?_).trans (loopX_done ?_)
  ·simp only [script_IsName.s0, ck_dec]; rfl
  ·simp only [script_IsName.s0, ck_dec]; rfl
 obtain ⟨r, h1, h2⟩ := contS [bs_109_97_99_114_111, bs_102_111_114, bs_105_110, bs_105_102, bs_101_108_115_101, bs_117_115_101, bs_102_105_108_101_115, bs_99_104_111_111_115_101] (by decide) bs_107
 have hr : r = -1 := by
  rcases h2 with ⟨h, _⟩ | ⟨k, _, hk, he, _⟩
  ·exact h
  ·exfalso
   have hm : bs_107 ∈ _ := he ▸ List.getElem_mem hk
   simp only [List.mem_cons, List.not_mem_nil, or_false] at hm
   exact absurd hm (by decide)
 have hz : ((bs_107.size : Nat) : Int) = 1 := rfl
 unfold script_IsName.f
 simp only [hz, ck_dec, l, script_words.f, slices_Contains_string_string.f, h1, hr, ob_s]
 rfl
theorem node_one : graph_checkNode.f (bs_47_47_58_97, (bs_107, ([], ([], ([], 0))))) = some 0 := by
 have a1 : graph_rising_f136.f [] () = some 0 := by
  have l : graph_rising_f136.l0 [] [] 0 0 = some (.inr ()) := loopX_of (n := 1) rfl
  show ob (graph_rising_f136.l0 [] [] 0 0) _ = _
  rw [l]; rfl
 have a2 : graph_rising_f72.f [] () = some 0 := by
  have l : graph_rising_f72.l0 [] [] 0 0 = some (.inr ()) := loopX_of (n := 1) rfl
  show ob (graph_rising_f72.l0 [] [] 0 0) _ = _
  rw [l]; rfl
 have a3 : graph_rising_f139.f [] () = some 0 := by
  have l : graph_rising_f139.l0 [] [] 0 0 = some (.inr ()) := loopX_of (n := 1) rfl
  show ob (graph_rising_f139.l0 [] [] 0 0) _ = _
  rw [l]; rfl
 unfold graph_checkNode.f
 simp only [whole_one, name_one, a1, a2, a3, ob_s]
 rfl
theorem open_one : Right one ∧ graph_open.f one = some (some (one, (depsA one, usersA one)), 0) := by
 have l0 : graph_open.l0 one one 1 0 = some (.inr ()) := by
  refine (loopX_next (x' := 1) ?_).trans (loopX_done ?_)
  ·have e : rd ND0 one 0 = (bs_47_47_58_97, (bs_107, ([], ([], ([], 0))))) := rfl
   simp only [graph_open.s0, e, node_one, ob_s, ck_dec]
   rfl
  ·rfl
 have l2 : ∀ (a b : List (List Int)) (c : List Nd), graph_open.l2 one 0 [] 0 0 a b c = some (.inr (a, b, c)) := fun a b c => loopX_done rfl
 have l1 : graph_open.l1 one one 1 0 [[]] [[]] one = some (.inr ([[]], ([[]], one))) := by
  refine (loopX_next (x' := (1, ([[]], ([[]], one)))) ?_).trans (loopX_done ?_)
  ·have e : rd ND0 one 0 = (bs_47_47_58_97, (bs_107, ([], ([], ([], 0))))) := rfl
   have e1 : (([] : List ByteArray).length : Int) = 0 := rfl
   simp only [graph_open.s1, e, e1, l2, ob_s, ck_dec, caseS_r]
   rfl
  ·rfl
 have h : graph_open.f one = some (some (one, ([[]], [[]])), 0) := by
  have e : ((one.length : Nat) : Int) = 1 := rfl
  have e1 : List.replicate (Int.toNat 1) ([] : List Int) = [[]] := rfl
  unfold graph_open.f
  simp only [e, e1, l0, l1, ob_s, caseS_r, ck_dec, mix_eq]
  rfl
 have hs : ∀ n ∈ one, szNd n := fun n hn => by
  rw [List.mem_singleton.1 hn]
  exact ⟨by decide, fun x hx => by (cases hx), fun x hx => by (cases hx), fun x hx => by (cases hx)⟩
 rcases open_eq hs with ⟨f, h1, h2⟩ | h2
 ·rw [h2] at h
  cases h
 ·exact h2
theorem awake4 : law4_awake.f = some true := by
 obtain ⟨hr, ho⟩ := open_one
 have h : graph_Order.f one = some ([bs_47_47_58_97], 0) := by
  unfold graph_Order.f graph_tree.f
  rw [ho]
  simp only [ob_s, cb_not, cb_dec, if_true]
  rcases order_eq hr with ⟨R, r1, r2, r3⟩ | ⟨L, r1, r2, r3⟩
  ·exfalso
   obtain ⟨x, hx⟩ := List.exists_mem_of_ne_nil R r1
   obtain ⟨y, hy, he⟩ := r2 x hx
   have hx0 : x = 0 := by have := he.1; simp [one] at this; exact this
   subst hx0
   have := he.2
   rw [D_get (by decide)] at this
   cases this
  ·rw [r3]
   have hl : ([0] : List Nat) = L := by
    match L, r1, r2 with
    | [x], r1, _ =>
     have := r1.lt x (List.mem_cons_self ..)
     have : x = 0 := by simp [one] at this; exact this
     rw [this]
   subst hl
   simp only [ob_s, cb_t, if_true, labels_eq one _ _ (L := [0]) (by decide) (by decide) r1.lt]
   rfl
 unfold law4_awake.f
 show ob (graph_Order.f one) _ = _
 rw [h]
 simp only [ob_s, ck_dec]
 rfl
end Go.Proofs.YtafalbofjmfbnaaDoor
set_option linter.unusedVariables false
set_option linter.unusedSimpArgs false
namespace Go.Proofs.YtafalbofjmfbnaaDoor
open Go Go.Proofs.YtafalbofjmfbnaaDoor.Eng
theorem contB {l : List ByteArray} (hl : l.length ≤ 1000000000) (x : ByteArray) : ∃ b : Bool, slices_Contains_string_string.f l x = some b ∧ (b = true ↔ x ∈ l) := by
 obtain ⟨r, h1, h2⟩ := contS l hl x
 refine ⟨decide (0 ≤ r), ?_, ?_⟩
 ·unfold slices_Contains_string_string.f
  rw [h1]; rfl
 ·rw [decide_eq_true_eq]
  rcases h2 with ⟨h3, h4⟩ | ⟨k, h3, h4, h5, _⟩
  ·exact ⟨fun h => by omega, fun h => absurd h h4⟩
  ·exact ⟨fun _ => h5 ▸ List.getElem_mem h4, fun _ => by omega⟩
noncomputable abbrev net (g : List Nd) : Option (List Nd × (List (List Int) × List (List Int))) := some (g, (depsA g, usersA g))
section
variable {g : List Nd}
theorem deps_rd {k : Nat} (hk : k < g.length) : rd ([] : List Int) (depsA g) (k : Int) = D g k := by
 have hl : (depsA g).length = g.length := by simp [depsA]
 rw [rd_lt (by omega : k < (depsA g).length)]
 simp [D, List.getD, hl, hk]
theorem d_rd {d : List Int} {k : Nat} (hk : k < d.length) : rd (0 : Int) d (k : Int) = d.getD k 0 := by
 rw [rd_lt hk]; simp [List.getD, hk]
theorem D_len (h : Right g) {k : Nat} (hk : k < g.length) : (D g k).length ≤ 300 := by
 rw [D_get hk, List.length_map]
 exact (h.nd _ (List.getElem_mem hk)).1
end
end Go.Proofs.YtafalbofjmfbnaaDoor
