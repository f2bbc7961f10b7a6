/-
  The plain laws of frames and of feeding them, over the printed functions. No condition.
-/
import Derived.Test.YtafalbofjmfbnaaDoorFun
import Derived.Sort.Walk0
set_option linter.unusedVariables false
set_option linter.unusedSimpArgs false
namespace Go.Proofs.YtafalbofjmfbnaaDoor.Eng
inductive Way (E : Nat → Nat → Prop) : Nat → Nat → Nat → Prop
 | nil (a : Nat) : Way E a a 0
 | snoc {a b c m : Nat} (h : Way E a b m) (e : E b c) : Way E a c (m + 1)
theorem Way.trans {E : Nat → Nat → Prop} {a b c m k : Nat} (h : Way E a b m) (h' : Way E b c k) : Way E a c (m + k) := by
 induction h' with
 | nil => exact h
 | snoc _ e ih => exact .snoc ih e
theorem Way.one {E : Nat → Nat → Prop} {a b : Nat} (e : E a b) : Way E a b 1 := .snoc (.nil a) e
theorem Way.cons {E : Nat → Nat → Prop} {a b c m : Nat} (e : E a b) (h : Way E b c m) : Way E a c (m + 1) := by
 have := (Way.one e).trans h
 rwa [Nat.add_comm] at this
theorem Way.flip {E : Nat → Nat → Prop} {a b m : Nat} (h : Way E a b m) : Way (fun x y => E y x) b a m := by
 induction h with
 | nil => exact .nil _
 | snoc _ e ih => exact .cons e ih
theorem Way.mono {E E' : Nat → Nat → Prop} {a b m : Nat} (h : Way E a b m) (hE : ∀ x y, E x y → E' x y) : Way E' a b m := by
 induction h with
 | nil => exact .nil _
 | snoc _ e ih => exact .snoc ih (hE _ _ e)
theorem Way.head {E : Nat → Nat → Prop} {a c m : Nat} (h : Way E a c (m + 1)) : ∃ b, E a b ∧ Way E b c m := by
 generalize hk : m + 1 = k at h
 induction h generalizing m with
 | nil => omega
 | @snoc b c k h e ih =>
  cases m with
  | zero =>
   have : k = 0 := by omega
   subst this
   cases h
   exact ⟨c, e, .nil c⟩
  | succ m =>
   obtain ⟨d, h1, h2⟩ := ih (m := m) (by omega)
   have : k = m + 1 := by omega
   exact ⟨d, h1, .snoc h2 e⟩
structure Far (n : Nat) (E : Nat → Nat → Prop) (S : Nat → Prop) (d : Nat → Int) : Prop where
 low : ∀ k, k < n → d k = -1 ∨ 0 ≤ d k
 src : ∀ k, k < n → (d k = 0 ↔ S k)
 step : ∀ k y, k < n → E k y → 0 ≤ d k → 0 ≤ d y ∧ d y ≤ d k + 1
 back : ∀ y, y < n → 0 < d y → ∃ k, k < n ∧ E k y ∧ d k = d y - 1
section
variable {n : Nat} {E : Nat → Nat → Prop} {S : Nat → Prop} {d d' : Nat → Int}
theorem Far.way (h : Far n E S d) (hE : ∀ k y, E k y → k < n ∧ y < n) {a b m : Nat} (ha : a < n) (hs : S a) (hw : Way E a b m) : 0 ≤ d b ∧ d b ≤ m := by
 induction hw with
 | nil => have := (h.src _ ha).2 hs; omega
 | snoc hw e ih =>
  have := h.step _ _ (hE _ _ e).1 e ih.1
  omega
theorem Far.ex (h : Far n E S d) : ∀ (m b : Nat), b < n → d b = m → ∃ a, a < n ∧ S a ∧ Way E a b m
 | 0, b, hb, hd => ⟨b, hb, (h.src b hb).1 hd, .nil b⟩
 | m + 1, b, hb, hd => by
  obtain ⟨k, hk, he, hdk⟩ := h.back b hb (by omega)
  obtain ⟨a, ha, hs, hw⟩ := Far.ex h m k hk (by omega)
  exact ⟨a, ha, hs, .snoc hw he⟩
theorem Far.get (h : Far n E S d) {b : Nat} (hb : b < n) (h0 : 0 ≤ d b) : ∃ a m, a < n ∧ S a ∧ Way E a b m ∧ d b = m := by
 obtain ⟨a, h1, h2, h3⟩ := h.ex (d b).toNat b hb (by omega)
 exact ⟨a, _, h1, h2, h3, by omega⟩
end
theorem loop_of {E : Nat → Nat → Prop} (R : List Nat) (hR : R ≠ []) (h : ∀ x, x ∈ R → ∃ y, y ∈ R ∧ E x y) : ∃ x m, x ∈ R ∧ Way E x x (m + 1) := by
 refine Classical.byContradiction fun hno => ?_
 have key : ∀ (R' : List Nat), R' ≠ [] → (∀ x, x ∈ R' → x ∈ R) → ∃ x, x ∈ R' ∧ ∀ y, y ∈ R' → ¬ ∃ m, Way E x y (m + 1) := by
  intro R'
  induction R' with
  | nil => exact fun h => absurd rfl h
  | cons a r ih =>
   intro _ hsub
   have haa : ¬ ∃ m, Way E a a (m + 1) := fun ⟨m, hm⟩ => hno ⟨a, m, hsub a (List.mem_cons_self ..), hm⟩
   cases r with
   | nil => exact ⟨a, List.mem_cons_self .., fun y hy => by rw [List.mem_singleton.1 hy]; exact haa⟩
   | cons b r =>
    obtain ⟨x, hx, hn⟩ := ih (by simp) (fun x hx => hsub x (List.mem_cons_of_mem _ hx))
    by_cases hxa : ∃ m, Way E x a (m + 1)
    ·refine ⟨a, List.mem_cons_self .., fun y hy => ?_⟩
     rcases List.mem_cons.1 hy with e | hy
     ·rw [e]; exact haa
     ·rintro ⟨m, hm⟩
      obtain ⟨k, hk⟩ := hxa
      exact hn y hy ⟨k + 1 + m, (hk.trans hm)⟩
    ·refine ⟨x, List.mem_cons_of_mem _ hx, fun y hy => ?_⟩
     rcases List.mem_cons.1 hy with e | hy
     ·rw [e]; exact hxa
     ·exact hn y hy
 obtain ⟨x, hx, hn⟩ := key R hR (fun x h => h)
 obtain ⟨y, hy, he⟩ := h x hx
 exact hn y hy ⟨0, Way.one he⟩
end Go.Proofs.YtafalbofjmfbnaaDoor.Eng
set_option linter.unusedVariables false
set_option linter.unusedSimpArgs false
namespace Go.Proofs.YtafalbofjmfbnaaDoor
open Go Go.Proofs.YtafalbofjmfbnaaDoor.Eng
abbrev Nd := ByteArray × (ByteArray × ((List ByteArray) × ((List ByteArray) × ((List ByteArray) × Int))))
def BIG : Nat := 140737488355328
theorem Z2b (s : ByteArray) : s.size = s.data.toList.length := by rw [ByteArray.size]; simp
theorem Zj8 {s : ByteArray} {k : Nat} (h : k < s.data.toList.length) : bt s (k : Int) = s.data.toList[k] := by
 have h' : k < s.size := by rw [Z2b]; exact h
 unfold bt
 simp only [Int.toNat_natCast]
 rw [getElem?_pos s k h', Option.getD_some]
 rfl
theorem Ziq {s : ByteArray} (hs : s.size ≤ BIG) (p : UInt8 → Bool) (f : Int → Option (Int ⊕ (Bool ⊕ Unit))) (hend : ∀ k : Nat, s.data.toList.length ≤ k → f k = some (.inr (.inr ())))
  (hno : ∀ k : Nat, ∀ h : k < s.data.toList.length, p s.data.toList[k] = false → f k = some (.inr (.inl false))) (hyes : ∀ k : Nat, ∀ h : k < s.data.toList.length, p s.data.toList[k] = true → f k = some (.inl ((k : Int) + 1))) :
  ∀ (n k : Nat), s.data.toList.length - k = n → Zl f (k : Int) = some (if (s.data.toList.drop k).all p then .inr () else .inl false) := by
 intro n
 induction n with
 | zero =>
  intro k hn
  rw [List.drop_eq_nil_of_le (by omega)]
  exact Z1 (hend k (by omega))
 | succ n ih =>
  intro k hn
  have hlt : k < s.data.toList.length := by omega
  rw [List.drop_eq_getElem_cons hlt, List.all_cons]
  cases hp : p s.data.toList[k] with
  | false => exact Z1 (hno k hlt hp)
  | true =>
   rw [Bool.true_and]
   exact (Z3 (hyes k hlt hp)).trans (ih (k + 1) (by omega))
def Zfm (c : UInt8) : Bool := decide (97 ≤ c.toNat ∧ c.toNat ≤ 122) || decide (65 ≤ c.toNat ∧ c.toNat ≤ 90) || decide (48 ≤ c.toNat ∧ c.toNat ≤ 57) || decide (0 ≤ Lib.indexByte [46, 95, 45, 43] c)
theorem Zbo (c : UInt8) : Q22.f c = some (Zfm c) := by
 have hi : Q16.f Q28 c = some (Lib.indexByte [46, 95, 45, 43] c) := rfl
 unfold Q22.f Zfm
 simp only [Z2, hi, ob_s]
 by_cases h1 : (97 : Int) ≤ ((UInt8.toNat c : Nat) : Int) <;> by_cases h2 : ((UInt8.toNat c : Nat) : Int) ≤ 122 <;> by_cases h3 : (65 : Int) ≤ ((UInt8.toNat c : Nat) : Int) <;> by_cases h4 : ((UInt8.toNat c : Nat) : Int) ≤ 90 <;>
  by_cases h5 : (48 : Int) ≤ ((UInt8.toNat c : Nat) : Int) <;> by_cases h6 : ((UInt8.toNat c : Nat) : Int) ≤ 57 <;> simp only [h1, h2, h3, h4, h5, h6, if_true, if_false] <;> congr 1 <;>
  (have g1 : decide (97 ≤ c.toNat ∧ c.toNat ≤ 122) = decide ((97 : Int) ≤ ((UInt8.toNat c : Nat) : Int) ∧ ((UInt8.toNat c : Nat) : Int) ≤ 122) := decide_eq_decide.2 (by omega)
   have g2 : decide (65 ≤ c.toNat ∧ c.toNat ≤ 90) = decide ((65 : Int) ≤ ((UInt8.toNat c : Nat) : Int) ∧ ((UInt8.toNat c : Nat) : Int) ≤ 90) := decide_eq_decide.2 (by omega)
   have g3 : decide (48 ≤ c.toNat ∧ c.toNat ≤ 57) = decide ((48 : Int) ≤ ((UInt8.toNat c : Nat) : Int) ∧ ((UInt8.toNat c : Nat) : Int) ≤ 57) := decide_eq_decide.2 (by omega)
   rw [g1, g2, g3]; simp [h1, h2, h3, h4, h5, h6])
def Z7h (s : ByteArray) : Bool := s.data.toList.all Zfm && (!decide (s = bs_) && (!decide (s = Q2s) && !decide (s = Q2r)))
theorem Zbn {s : ByteArray} (hs : s.size ≤ BIG) : Q17.f s = some (Z7h s) := by
 have hb : BIG = 140737488355328 := rfl
 have hl := Z2b s
 have h := Ziq hs Zfm (fun x => Q17.s0 s (s.size : Int) x) (fun k hk => by
  simp only [Q17.s0, Z2]; rw [if_neg (by omega)]) (fun k hk hp => by
  simp only [Q17.s0, Z2, Zj8 hk, Zbo, hp, ob_s]; rw [if_pos (by omega), Z0 (by omega)]; rfl) (fun k hk hp => by
  simp only [Q17.s0, Z2, Zj8 hk, Zbo, hp, ob_s]; rw [if_pos (by omega), Z0 (by omega), Zd (by omega) (by omega)]; rfl) s.data.toList.length 0 (by omega)
 rw [List.drop_zero] at h
 unfold Q17.f Z7h
 show ob (Zl (fun x => Q17.s0 s (s.size : Int) x) ((0 : Nat) : Int)) _ = _
 rw [h]
 cases s.data.toList.all Zfm
 ·rfl
 ·simp only [if_true, ob_s, Z23, Bool.true_and, Z15, Z2]
  by_cases e1 : s = bs_
  ·rw [if_pos e1, decide_eq_true e1]; rfl
  ·rw [if_neg e1, decide_eq_false e1]
   by_cases e2 : s = Q2s
   ·rw [if_pos e2, decide_eq_true e2]; rfl
   ·rw [if_neg e2, decide_eq_false e2]; rfl
theorem indexByte_lt : ∀ (l : List UInt8) (c : UInt8), -1 ≤ Lib.indexByte l c ∧ Lib.indexByte l c < l.length
 | [], c => by simp [Lib.indexByte]
 | b :: l, c => by
  have h := indexByte_lt l c
  unfold Lib.indexByte
  split
  ·simp only [List.length_cons]; omega
  ·split
   ·simp only [List.length_cons]; omega
   ·rename_i h1
    have : ¬ Lib.indexByte l c = -1 := by simpa using h1
    simp only [List.length_cons]; omega
theorem Zgc (s : ByteArray) : Q1v.f s Q2g = some (Lib.indexByte s.data.toList 47) := by
 show ob (ck _ _) _ = _
 rw [Z0 (by rfl)]; rfl
theorem index58 (s : ByteArray) : Q1c.f s Q2f = some (Lib.indexByte s.data.toList 58) := by
 show ck _ _ = _
 rw [Z0 (by rfl)]; rfl
theorem Z13 (s : ByteArray) (a b : Nat) : (s.extract a b).size = min b s.size - a := by simp [ByteArray.size_extract]
theorem Zfb {n : Nat} (hn : n ≤ 1000000000000) : ∀ (m i : Nat) (s : ByteArray) (a : List ByteArray), n - i = m → i ≤ n → a.length = n + 1 → s.size ≤ BIG →
  ∃ (s' : ByteArray) (i' : Nat) (a' : List ByteArray), Ql.l0 Q2g 0 (n : Int) s (i : Int) a = some (s', (i' : Int), a') ∧ i' ≤ n ∧ a'.length = n + 1 ∧ (∀ x ∈ a', x.size ≤ s.size ∨ x ∈ a) ∧ s'.size ≤ s.size := by
 intro m
 have hb : BIG = 140737488355328 := rfl
 induction m with
 | zero =>
  intro i s a hm hi ha hs
  refine ⟨s, i, a, Z1 ?_, hi, ha, fun x hx => .inr hx, Nat.le_refl _⟩
  simp only [Ql.s0, Z2]
  rw [if_neg (by omega)]
 | succ m ih =>
  intro i s a hm hi ha hs
  have hx := indexByte_lt s.data.toList 47
  have hl := Z2b s
  by_cases hneg : Lib.indexByte s.data.toList 47 < 0
  ·refine ⟨s, i, a, Z1 ?_, hi, ha, fun x hx => .inr hx, Nat.le_refl _⟩
   simp only [Ql.s0, Z2, Zgc, ob_s]
   rw [if_pos (by omega), if_pos hneg]
  ·have hz1 := Z13 s 0 (Int.toNat (Lib.indexByte s.data.toList 47 + 0))
   have hz2 := Z13 s (Int.toNat (Lib.indexByte s.data.toList 47 + ((Q2g.size : Nat) : Int))) s.size
   have h1 : Q2g.size = 1 := rfl
   obtain ⟨s', i', a', h2, h3, h4, h5, h6⟩ := ih (i + 1) (s.extract (Int.toNat (Lib.indexByte s.data.toList 47 + ((Q2g.size : Nat) : Int))) s.size) (a.set i (s.extract 0 (Int.toNat (Lib.indexByte s.data.toList 47 + 0)))) (by omega) (by omega) (by simpa using ha) (by rw [hz2]; omega)
   refine ⟨s', i', a', (Z3 ?_).trans h2, h3, h4, fun x hx => ?_, by omega⟩
   ·simp only [Ql.s0, Z2, Zgc, ob_s]
    rw [if_pos (by omega), if_neg hneg, Zd (by omega) (by omega), Z0 (by omega), Z0 (by omega), Z0 (by rw [Int.toNat_natCast]; omega), Zd (by rw [h1]; omega) (by rw [h1]; omega), Z0 (by rw [h1]; omega), Zd (by omega) (by omega)]
    rfl
   ·rcases h5 x hx with h | h
    ·left; omega
    ·rcases List.mem_or_eq_of_mem_set h with h | h
     ·exact .inr h
     ·left; rw [h, hz1]; omega
theorem Zbu (l : List UInt8) (c : UInt8) : (Lib.countByte l c : Nat) ≤ l.length := List.count_le_length
theorem Ze9 {s : ByteArray} (hs : s.size ≤ 1000000) : ∃ l, Q1g.f s Q2g = some l ∧ l.length ≤ 1000002 ∧ ∀ x ∈ l, x.size ≤ s.size := by
 have hb : BIG = 140737488355328 := rfl
 have hl := Z2b s
 have hc := Zbu s.data.toList 47
 have hcnt : Q2a.f s Q2g = some ((Lib.countByte s.data.toList 47 : Nat) : Int) := by
  show ck _ _ = _
  rw [Z0 (by rfl)]; rfl
 obtain ⟨s', i', a', h2, h3, h4, h5, h6⟩ := Zfb (n := Lib.countByte s.data.toList 47) (by omega) _ 0 s (List.replicate (Lib.countByte s.data.toList 47 + 1) ByteArray.empty) rfl (Nat.zero_le _) (by simp) (by omega)
 unfold Q1g.f Ql.f
 have e1 : ¬ (Q2g = bs_) := by decide
 have hy : min (((Lib.countByte s.data.toList 47 : Nat) : Int) + 1) (((s.size : Nat) : Int) + 1) = ((Lib.countByte s.data.toList 47 + 1 : Nat) : Int) := by omega
 simp only [Z2, hcnt, ob_s, hy]
 rw [if_neg (by decide), if_neg e1, if_pos (by decide), Zd (by omega) (by omega), Zd (by omega) (by omega), Z0 (by omega), Zd (by omega) (by omega)]
 rw [show ((Lib.countByte s.data.toList 47 + 1 : Nat) : Int) - 1 = ((Lib.countByte s.data.toList 47 : Nat) : Int) by omega, Int.toNat_natCast]
 rw [show ((0 : Nat) : Int) = 0 from rfl] at h2
 rw [h2, ob_s]
 simp only
 rw [Z0 (by omega), Z0 (by rw [Int.toNat_natCast]; omega), Zd (by omega) (by omega), Z0 (by simp only [List.length_set]; omega), ob_s]
 refine ⟨_, rfl, by simp only [List.length_take, List.length_drop, List.length_set]; omega, fun x hx => ?_⟩
 have hx1 := List.mem_of_mem_drop (List.mem_of_mem_take hx)
 rcases List.mem_or_eq_of_mem_set hx1 with h | h
 ·rcases h5 x h with h | h
  ·exact h
  ·have := List.eq_of_mem_replicate h
   rw [this]; exact Nat.zero_le _
 ·rw [h]; exact h6
noncomputable def Z1x (s : ByteArray) : List ByteArray := (Q1g.f s Q2g).getD []
theorem Zhl {s : ByteArray} (hs : s.size ≤ 1000000) : Q1g.f s Q2g = some (Z1x s) ∧ (Z1x s).length ≤ 1000002 ∧ ∀ x ∈ Z1x s, x.size ≤ s.size := by
 obtain ⟨l, h1, h2, h3⟩ := Ze9 hs
 have e : Z1x s = l := by unfold Z1x; rw [h1]; rfl
 rw [e]
 exact ⟨h1, h2, h3⟩
theorem Zi6 {α : Type} {l : List α} (p : α → Bool) (f : Int → Option (Int ⊕ (Bool ⊕ Unit))) (hend : ∀ k : Nat, l.length ≤ k → f k = some (.inr (.inr ())))
  (hno : ∀ k : Nat, ∀ h : k < l.length, p l[k] = false → f k = some (.inr (.inl false))) (hyes : ∀ k : Nat, ∀ h : k < l.length, p l[k] = true → f k = some (.inl ((k : Int) + 1))) :
  ∀ (n k : Nat), l.length - k = n → Zl f (k : Int) = some (if (l.drop k).all p then .inr () else .inl false) := by
 intro n
 induction n with
 | zero =>
  intro k hn
  rw [List.drop_eq_nil_of_le (by omega)]
  exact Z1 (hend k (by omega))
 | succ n ih =>
  intro k hn
  have hlt : k < l.length := by omega
  rw [List.drop_eq_getElem_cons hlt, List.all_cons]
  cases hp : p l[k] with
  | false => exact Z1 (hno k hlt hp)
  | true =>
   rw [Bool.true_and]
   exact (Z3 (hyes k hlt hp)).trans (ih (k + 1) (by omega))
noncomputable def Z1q (s : ByteArray) : Bool := if 1 ≤ s.size ∧ s.size ≤ 200 then (Z1x s).all Z7h else false
theorem Z3v (s : ByteArray) : Qn.f s = some (Z1q s) := by
 have hb : BIG = 140737488355328 := rfl
 unfold Qn.f Z1q
 simp only [Z2]
 by_cases h1 : ((s.size : Nat) : Int) < 1
 ·rw [if_pos h1, if_neg (by omega)]
 ·by_cases h2 : (200 : Int) < ((s.size : Nat) : Int)
  ·rw [if_neg h1, if_pos h2, if_neg (by omega)]
  ·obtain ⟨g1, g2, g3⟩ := Zhl (s := s) (by omega)
   have h := Zi6 (l := Z1x s) Z7h (fun x => Qn.s0 (Z1x s) ((Z1x s).length : Int) x) (fun k hk => by
    simp only [Qn.s0, Z2]; rw [if_neg (by omega)]) (fun k hk hp => by
    have hz := g3 _ (List.getElem_mem hk)
    simp only [Qn.s0, Z2, Zj hk, Zbn (s := (Z1x s)[k]) (by omega), hp, ob_s]; rw [if_pos (by omega), Z0 (by omega)]; rfl) (fun k hk hp => by
    have hz := g3 _ (List.getElem_mem hk)
    simp only [Qn.s0, Z2, Zj hk, Zbn (s := (Z1x s)[k]) (by omega), hp, ob_s]; rw [if_pos (by omega), Z0 (by omega), Zd (by omega) (by omega)]; rfl) (Z1x s).length 0 (by omega)
   rw [List.drop_zero] at h
   rw [if_neg h1, if_neg h2, if_pos (by omega), g1, ob_s]
   show ob (Zl (fun x => Qn.s0 (Z1x s) ((Z1x s).length : Int) x) ((0 : Nat) : Int)) _ = _
   rw [h]
   cases (Z1x s).all Z7h <;> rfl
def hasP (s p : ByteArray) : Bool := decide (p.size ≤ s.size) && decide (s.extract 0 p.size = p)
theorem Zbp (s p : ByteArray) : Qs.f s p = some (hasP s p) := by
 unfold Qs.f hasP
 simp only [Z2, Int.toNat_natCast]
 by_cases h : p.size ≤ s.size
 ·rw [if_pos (by omega), Z0 (by omega), decide_eq_true h, Bool.true_and]
 ·rw [if_neg (by omega), decide_eq_false h, Bool.false_and]
def cutP (s p : ByteArray) : ByteArray × Bool := if hasP s p then (s.extract p.size s.size, true) else (s, false)
theorem Z3y (s p : ByteArray) : Q15.f s p = some (cutP s p) := by
 unfold Q15.f Qw.f cutP
 simp only [Zbp, ob_s, Int.toNat_natCast]
 cases h : hasP s p with
 | false => rfl
 | true =>
  have h' : p.size ≤ s.size := by
   unfold hasP at h
   rw [Bool.and_eq_true] at h
   exact of_decide_eq_true h.1
  simp only [Bool.not_true, cb_f]
  rw [Z0 (by omega)]
  rfl
def Za0 (s : ByteArray) : ByteArray × (ByteArray × Bool) :=
 if 0 ≤ Lib.indexByte s.data.toList 58 then (s.extract 0 (Lib.indexByte s.data.toList 58).toNat, s.extract ((Lib.indexByte s.data.toList 58).toNat + 1) s.size, true) else (s, bs_, false)
theorem Zj7 {s : ByteArray} (hs : s.size ≤ BIG) : Q1y.f s Q2f = some (Za0 s) := by
 have hb : BIG = 140737488355328 := rfl
 have hx := indexByte_lt s.data.toList 58
 have hl := Z2b s
 have h1 : Q2f.size = 1 := rfl
 unfold Q1y.f Q18.f Za0
 simp only [index58, ob_s, Z2, h1]
 by_cases h : 0 ≤ Lib.indexByte s.data.toList 58
 ·rw [if_pos h, if_pos h, Z0 (by omega), Zd (by omega) (by omega), Z0 (by omega), ob_s]
  rw [show (Lib.indexByte s.data.toList 58 + ((1 : Nat) : Int)).toNat = (Lib.indexByte s.data.toList 58).toNat + 1 by omega]
 ·rw [if_neg h, if_neg h]; rfl
theorem Zg6 {s : ByteArray} (hs : s.size ≤ BIG) : ∃ r, Q20.f s = some r ∧ r.size ≤ s.size := by
 have hb : BIG = 140737488355328 := rfl
 have hl := Z2b s
 have go : ∀ (m : Nat) (k : Int), (k + 1).toNat = m → -1 ≤ k → k < s.size → ∃ r, Q3.l0 s (UInt8.ofInt 47) k = some r ∧ ∀ i, r = .inl i → 0 ≤ i ∧ i < s.size := by
  intro m
  induction m with
  | zero =>
   intro k hm h1 h2
   refine ⟨.inr (), Z1 ?_, fun i h => by cases h⟩
   simp only [Q3.s0, Z2]
   rw [if_neg (by omega)]
  | succ m ih =>
   intro k hm h1 h2
   by_cases he : ((UInt8.toNat (bt s k) : Nat) : Int) = ((UInt8.toNat (UInt8.ofInt 47) : Nat) : Int)
   ·refine ⟨.inl k, Z1 ?_, fun i h => by cases h; omega⟩
    simp only [Q3.s0, Z2]
    rw [if_pos (by omega), Z0 (by omega), if_pos he]
   ·obtain ⟨r, h3, h4⟩ := ih (k - 1) (by omega) (by omega) (by omega)
    refine ⟨r, (Z3 ?_).trans h3, h4⟩
    simp only [Q3.s0, Z2]
    rw [if_pos (by omega), Z0 (by omega), if_neg he, Zd (by omega) (by omega)]
 obtain ⟨r, h1, h2⟩ := go _ (((s.size : Nat) : Int) - 1) rfl (by omega) (by omega)
 unfold Q20.f Q19.f Q3.f
 simp only [h1, ob_s]
 rw [Zd (by omega) (by omega)]
 cases r with
 | inl i =>
  have := h2 i rfl
  simp only [Za2, ob_s]
  rw [Zd (by omega) (by omega), Z0 (by omega)]
  exact ⟨_, rfl, by rw [Z13]; omega⟩
 | inr u =>
  simp only [Z23, ob_s]
  rw [Zd (by omega) (by omega), Z0 (by omega)]
  exact ⟨_, rfl, by rw [Z13]; omega⟩
noncomputable def labF (a : ByteArray × ByteArray) : Int := if (a.1 = bs_ ∨ Z1q a.1 = true) ∧ Z1q a.2 = true then 0 else 3
theorem Z5j (a : ByteArray × ByteArray) : Q13.f a = some (labF a) := by
 unfold Q13.f labF
 simp only [Z3v, ob_s, Z15, Z2]
 by_cases e : a.1 = bs_
 ·simp only [e, if_true, true_or, true_and]
  cases Z1q a.2 <;> rfl
 ·simp only [e, if_false, false_or]
  cases Z1q a.1 <;> cases Z1q a.2 <;> rfl
end Go.Proofs.YtafalbofjmfbnaaDoor
set_option linter.unusedVariables false
set_option linter.unusedSimpArgs false
namespace Go.Proofs.YtafalbofjmfbnaaDoor
open Go Go.Proofs.YtafalbofjmfbnaaDoor.Eng
theorem Z6f {s : ByteArray} (hs : s.size ≤ BIG) : ∃ b, Q1a.f s = some b := by
 have hb : BIG = 140737488355328 := rfl
 have hc : ∀ p : ByteArray, (cutP s p).1.size ≤ s.size := fun p => by
  unfold cutP
  split
  ·show (s.extract _ _).size ≤ _; rw [Z13]; omega
  ·exact Nat.le_refl _
 have hcc : ∀ t : ByteArray, t.size ≤ s.size → (Za0 t).1.size ≤ s.size ∧ (Za0 t).2.1.size ≤ s.size := fun t ht => by
  unfold Za0
  split
  ·constructor
   ·show (t.extract _ _).size ≤ _; rw [Z13]; omega
   ·show (t.extract _ _).size ≤ _; rw [Z13]; omega
  ·exact ⟨ht, Nat.zero_le _⟩
 have hw : ∀ a : ByteArray × ByteArray, a.1.size ≤ s.size → a.2.size ≤ s.size → ∃ t, Q1n.f a = some t := fun a h1 h2 => by
  unfold Q1n.f
  have e1 : Q27.size = 2 := rfl
  have e2 : Q2f.size = 1 := rfl
  simp only [ByteArray.size_append, e1, e2]
  rw [Z0 (by omega), Z0 (by omega), Z0 (by omega)]
  exact ⟨_, rfl⟩
 have hfin : ∀ r : (ByteArray × ByteArray) × Int, r.1.1.size ≤ s.size → r.1.2.size ≤ s.size → ∃ b, (ob (some r) fun r1 => (cb (decide (r1.2 = (0 : Int))) (ob (Q1n.f r1.1) fun r2 => (some (decide (r2 = s)))) (some false))) = some b := fun r h1 h2 => by
  simp only [ob_s, Z2]
  split
  ·obtain ⟨t, ht⟩ := hw r.1 h1 h2
   rw [ht]; exact ⟨_, rfl⟩
  ·exact ⟨_, rfl⟩
 have hr : ∃ r, Q1d.f s bs_ = some r ∧ r.1.1.size ≤ s.size ∧ r.1.2.size ≤ s.size := by
  unfold Q1d.f
  have h1 := hc Q27
  have h2 := hc Q2f
  simp only [decide_true, Bool.not_true, cb_f, Z3y, ob_s]
  have fin : ∀ a : ByteArray × ByteArray, a.1.size ≤ s.size → a.2.size ≤ s.size → ∃ r : (ByteArray × ByteArray) × Int, (ob (Q13.f a) fun r14 => (cb (!decide (r14 = (0 : Int))) (some ((bs_, bs_), (10 : Int))) (some (a, (0 : Int))))) = some r ∧ r.1.1.size ≤ s.size ∧ r.1.2.size ≤ s.size := fun a g1 g2 => by
   rw [Z5j, ob_s, Z15, Z2]
   split
   ·exact ⟨_, rfl, g1, g2⟩
   ·exact ⟨_, rfl, Nat.zero_le _, Nat.zero_le _⟩
  cases (cutP s Q27).2 with
  | true =>
   obtain ⟨g1, g2⟩ := hcc _ h1
   simp only [cb_t, Zj7 (s := (cutP s Q27).1) (by omega), ob_s]
   cases (Za0 (cutP s Q27).1).2.2 with
   | true => exact fin _ g1 g2
   | false =>
    obtain ⟨t, t1, t2⟩ := Zg6 (s := (Za0 (cutP s Q27).1).1) (by omega)
    simp only [Bool.not_false, cb_t, t1, ob_s]
    exact fin ((Za0 (cutP s Q27).1).1, t) g1 (by show t.size ≤ _; omega)
  | false =>
   simp only [cb_f]
   cases (cutP s Q2f).2 with
   | true => exact fin (bs_, (cutP s Q2f).1) (Nat.zero_le _) h2
   | false => exact fin (bs_, bs_) (Nat.zero_le _) (Nat.zero_le _)
 obtain ⟨r, h1, h2, h3⟩ := hr
 unfold Q1a.f
 rw [h1]
 exact hfin r h2 h3
theorem contS (l : List ByteArray) (hl : l.length ≤ 1000000000) (x : ByteArray) : ∃ r : Int, Q9.f l x = some r ∧ ((r = -1 ∧ x ∉ l) ∨ ∃ k : Nat, r = k ∧ ∃ h : k < l.length, l[k] = x ∧ ∀ j : Nat, ∀ h : j < k, l[j]'(by omega) ≠ x) := by
 have go : ∀ (n k : Nat), l.length - k = n → (∀ j : Nat, ∀ h : j < l.length, j < k → l[j] ≠ x) → ∃ r, Q9.l0 l x (l.length : Int) (k : Int) = some r ∧ ((r = .inr () ∧ x ∉ l.drop k) ∨ ∃ i : Nat, r = .inl (i : Int) ∧ ∃ h : i < l.length, l[i] = x ∧ ∀ j : Nat, ∀ h : j < i, l[j]'(by omega) ≠ x) := by
  intro n
  induction n with
  | zero =>
   intro k hn hb
   refine ⟨.inr (), Z1 ?_, .inl ⟨rfl, by rw [List.drop_eq_nil_of_le (by omega)]; simp⟩⟩
   simp only [Q9.s0, Z2]
   rw [if_neg (by omega)]
  | succ n ih =>
   intro k hn hb
   have hlt : k < l.length := by omega
   by_cases e : x = l[k]
   ·refine ⟨.inl (k : Int), Z1 ?_, .inr ⟨k, rfl, hlt, e.symm, fun j hj => hb j (by omega) hj⟩⟩
    simp only [Q9.s0, Z2, Zj hlt]
    rw [if_pos (by omega), Z0 (by omega), if_pos e]
   ·obtain ⟨r, h1, h2⟩ := ih (k + 1) (by omega) (fun j hj hjk => by
     rcases Nat.lt_or_ge j k with h | h
     ·exact hb j hj h
     ·have : j = k := by omega
      subst this
      exact fun h => e h.symm)
    refine ⟨r, (Z3 ?_).trans h1, ?_⟩
    ·simp only [Q9.s0, Z2, Zj hlt]
     rw [if_pos (by omega), Z0 (by omega), if_neg e, Zd (by omega) (by omega)]
     rfl
    ·rcases h2 with ⟨h2, h3⟩ | h2
     ·refine .inl ⟨h2, fun hm => ?_⟩
      rw [List.drop_eq_getElem_cons hlt] at hm
      rcases List.mem_cons.1 hm with h | h
      ·exact e h
      ·exact h3 h
     ·exact .inr h2
 obtain ⟨r, h1, h2⟩ := go l.length 0 (by omega) (fun j _ hj => absurd hj (Nat.not_lt_zero _))
 rw [show ((0 : Nat) : Int) = 0 from rfl] at h1
 unfold Q9.f
 simp only [h1, ob_s]
 rcases h2 with ⟨rfl, h3⟩ | ⟨i, rfl, h3⟩
 ·exact ⟨-1, rfl, .inl ⟨rfl, by simpa using h3⟩⟩
 ·exact ⟨i, rfl, .inr ⟨i, rfl, h3⟩⟩
theorem Z8i (c : UInt8) : ∃ b, Q1l.f c = some b := by
 unfold Q1l.f
 rw [Z2]; split <;> exact ⟨_, rfl⟩
theorem Zeo (c : UInt8) : ∃ b, Q1p.f c = some b := by
 unfold Q1p.f
 rw [Z2]; split <;> exact ⟨_, rfl⟩
theorem Zcx {s : ByteArray} : ∃ b, Qt.f s = some b := by
 have hl := Z2b s
 unfold Qt.f
 simp only [Z2]
 by_cases h1 : ((s.size : Nat) : Int) < 1
 ·rw [if_pos h1]; exact ⟨_, rfl⟩
 ·by_cases h2 : (40 : Int) < ((s.size : Nat) : Int)
  ·rw [if_neg h1, if_pos h2]; exact ⟨_, rfl⟩
  ·rw [if_neg h1, if_neg h2, Z0 (by omega)]
   obtain ⟨b, hb⟩ := Z8i (bt s 0)
   rw [hb, ob_s]
   cases b with
   | false => exact ⟨_, rfl⟩
   | true =>
    have go : ∀ (n k : Nat), s.size - k = n → ∃ r, Qt.l0 s (s.size : Int) (k : Int) = some r := by
     intro n
     induction n with
     | zero =>
      intro k hn
      refine ⟨.inr (), Z1 ?_⟩
      simp only [Qt.s0, Z2]
      rw [if_neg (by omega)]
     | succ n ih =>
      intro k hn
      obtain ⟨r, hr⟩ := ih (k + 1) (by omega)
      have c0 : 0 ≤ (k : Int) ∧ (k : Int) < ((s.size : Nat) : Int) := by omega
      have c1 : InR ((k : Int) + 1) := ⟨by omega, by omega⟩
      obtain ⟨b1, hb1⟩ := Z8i (bt s (k : Int))
      obtain ⟨b2, hb2⟩ := Zeo (bt s (k : Int))
      by_cases hstop : b1 = false ∧ b2 = false ∧ ¬ ((UInt8.toNat (bt s (k : Int)) : Nat) : Int) = 95
      ·refine ⟨.inl false, Z1 ?_⟩
       simp only [Qt.s0, Z2, Z15, if_pos c0.2, Z0 c0, hb1, hb2, ob_s, hstop.1, hstop.2.1, cb_f, if_neg hstop.2.2]
      ·refine ⟨r, (Z3 ?_).trans hr⟩
       simp only [Qt.s0, Z2, Z15, if_pos c0.2, Z0 c0, Z0 c1, hb1, hb2, ob_s]
       cases b1 with
       | true => rfl
       | false =>
        cases b2 with
        | true => rfl
        | false =>
         have : ((UInt8.toNat (bt s (k : Int)) : Nat) : Int) = 95 := Classical.byContradiction fun h => hstop ⟨rfl, rfl, h⟩
         simp only [cb_f, if_pos this]; rfl
    obtain ⟨r, hr⟩ := go s.size 0 (by omega)
    rw [show ((0 : Nat) : Int) = 0 from rfl] at hr
    simp only [Bool.not_true, cb_f, hr, ob_s]
    cases r with
    | inl b => exact ⟨_, rfl⟩
    | inr u =>
     obtain ⟨r, h1, _⟩ := contS [Q2e, Q2l, Q2n, Q2o, Q2h, Q2k, Q2c, Q2b] (by decide) s
     simp only [Z23, Q1w.f, ob_s, Qv.f, h1]
     exact ⟨_, rfl⟩
def cmpS (a b : ByteArray) : Int := Lib.compareBytes a.data.toList b.data.toList
theorem cmpL_less : ∀ a b : List UInt8, (Lib.compareBytes a b < 0 ↔ Op.bytesLess a b = true)
 | [], [] => by simp [Lib.compareBytes, Op.bytesLess]
 | [], _ :: _ => by simp [Lib.compareBytes, Op.bytesLess]
 | _ :: _, [] => by simp [Lib.compareBytes, Op.bytesLess]
 | x :: a, y :: b => by
  have ih := cmpL_less a b
  unfold Lib.compareBytes Op.bytesLess
  by_cases h1 : x < y
  ·simp [h1]
  ·by_cases h2 : y < x
   ·have h3 : ¬ x = y := fun e => by subst e; exact absurd h2 (UInt8.lt_irrefl x)
    simp [h1, h2, h3]
   ·have h3 : x = y := UInt8.le_antisymm (UInt8.not_lt.1 h2) (UInt8.not_lt.1 h1)
    subst h3
    simp only [h1, if_false, decide_false, Bool.false_or, beq_self_eq_true, Bool.true_and]
    exact ih
theorem cmpL_eq0 : ∀ a b : List UInt8, (Lib.compareBytes a b = 0 ↔ a = b)
 | [], [] => by simp [Lib.compareBytes]
 | [], _ :: _ => by simp [Lib.compareBytes]
 | _ :: _, [] => by simp [Lib.compareBytes]
 | x :: a, y :: b => by
  have ih := cmpL_eq0 a b
  unfold Lib.compareBytes
  by_cases h1 : x < y
  ·have h3 : ¬ x = y := fun e => by subst e; exact absurd h1 (UInt8.lt_irrefl x)
   simp [h1, h3]
  ·by_cases h2 : y < x
   ·have h3 : ¬ x = y := fun e => by subst e; exact absurd h2 (UInt8.lt_irrefl x)
    simp [h1, h2, h3]
   ·have h3 : x = y := UInt8.le_antisymm (UInt8.not_lt.1 h2) (UInt8.not_lt.1 h1)
    subst h3
    simp only [h1, if_false, List.cons.injEq, true_and]
    exact ih
theorem cmpL_swap : ∀ a b : List UInt8, Lib.compareBytes b a = - Lib.compareBytes a b
 | [], [] => rfl
 | [], _ :: _ => rfl
 | _ :: _, [] => rfl
 | x :: a, y :: b => by
  have ih := cmpL_swap a b
  unfold Lib.compareBytes
  by_cases h1 : x < y
  ·have h2 : ¬ y < x := UInt8.not_lt.2 (UInt8.le_of_lt h1)
   simp [h1, h2]
  ·by_cases h2 : y < x
   ·simp [h1, h2]
   ·simp only [h1, h2, if_false]; exact ih
theorem cmpL_trans : ∀ a b c : List UInt8, Lib.compareBytes a b < 0 → Lib.compareBytes b c < 0 → Lib.compareBytes a c < 0
 | [], [], c, h, _ => by simp [Lib.compareBytes] at h
 | [], _ :: _, [], _, h => by simp [Lib.compareBytes] at h
 | [], _ :: _, _ :: _, _, _ => by simp [Lib.compareBytes]
 | _ :: _, [], c, h, _ => by simp [Lib.compareBytes] at h
 | _ :: _, _ :: _, [], _, h => by simp [Lib.compareBytes] at h
 | x :: a, y :: b, z :: c, h, h' => by
  have ih := cmpL_trans a b c
  unfold Lib.compareBytes at h h' ⊢
  by_cases h1 : x < y
  ·by_cases h2 : y < z
   ·simp [UInt8.lt_trans h1 h2]
   ·by_cases h3 : z < y
    ·simp [h2, h3] at h'
    ·have e : y = z := UInt8.le_antisymm (UInt8.not_lt.1 h3) (UInt8.not_lt.1 h2)
     subst e; simp [h1]
  ·by_cases h2 : y < x
   ·simp [h1, h2] at h
   ·have e : x = y := UInt8.le_antisymm (UInt8.not_lt.1 h2) (UInt8.not_lt.1 h1)
    subst e
    by_cases h3 : x < z
    ·simp [h3]
    ·by_cases h4 : z < x
     ·simp [h3, h4] at h'
     ·simp only [h1, if_false] at h
      simp only [h3, h4, if_false] at h' ⊢
      exact ih h h'
theorem Zgy (a b : ByteArray) : Z69 a b = true ↔ cmpS a b < 0 := by
 unfold Z69 cmpS
 rw [ByteArray.toList_eq, ByteArray.toList_eq]
 exact (cmpL_less _ _).symm
theorem Z3f (a b : ByteArray) : cmpS a b = 0 ↔ a = b := by
 unfold cmpS
 rw [cmpL_eq0]
 exact ⟨fun h => ByteArray.ext (Array.toList_inj.1 h), fun h => by rw [h]⟩
theorem Z7o (a b : ByteArray) : cmpS b a = - cmpS a b := cmpL_swap _ _
theorem Z66 {a b c : ByteArray} (h : cmpS a b < 0) (h' : cmpS b c < 0) : cmpS a c < 0 := cmpL_trans _ _ _ h h'
theorem Z3t (a b : ByteArray) : (Z69 a b || decide (a = b)) = decide (cmpS a b ≤ 0) := by
 have h1 := Zgy a b
 have h2 := Z3f a b
 by_cases h : cmpS a b < 0
 ·rw [h1.2 h, Bool.true_or, decide_eq_true (by omega)]
 ·have hf : Z69 a b = false := by
   cases hb : Z69 a b with
   | false => rfl
   | true => exact absurd (h1.1 hb) h
  rw [hf, Bool.false_or]
  exact decide_eq_decide.2 ⟨fun e => by rw [h2.2 e]; exact Int.le_refl _, fun e => h2.1 (by omega)⟩
def Rising (l : List ByteArray) : Prop := ∀ i j : Nat, ∀ h : j < l.length, ∀ h' : i < j, cmpS (l[i]'(by omega)) l[j] < 0
theorem Z73 {l : List ByteArray} (h : ∀ k : Nat, ∀ hk : k + 1 < l.length, cmpS (l[k]'(by omega)) l[k + 1] < 0) : Rising l := by
 intro i j
 induction j with
 | zero => intro h h'; omega
 | succ j ih =>
  intro hj hij
  rcases Nat.lt_or_ge i j with h1 | h1
  ·exact Z66 (ih (by omega) h1) (h j hj)
  ·have : i = j := by omega
   subst this
   exact h i hj
theorem Rising.inj {l : List ByteArray} (h : Rising l) {i j : Nat} (hi : i < l.length) (hj : j < l.length) (e : l[i] = l[j]) : i = j := by
 rcases Nat.lt_trichotomy i j with h1 | h1 | h1
 ·have := h i j hj h1
  rw [e] at this
  have h0 := (Z3f l[j] l[j]).2 rfl
  omega
 ·exact h1
 ·have := h j i hi h1
  rw [e] at this
  have h0 := (Z3f l[j] l[j]).2 rfl
  omega
theorem Z90 {l : List ByteArray} (hl : l.length ≤ 1000000000) (form : ByteArray → Option Bool) (hform : ∀ x ∈ l, ∃ b, form x = some b) (step : Int → Option (Int ⊕ (Int ⊕ Unit)))
  (hend : ∀ k : Nat, l.length ≤ k → step k = some (.inr (.inr ())))
  (hno : ∀ k : Nat, ∀ h : k < l.length, form l[k] = some false → step k = some (.inr (.inl 3)))
  (hbad : ∀ k : Nat, ∀ h : k + 1 < l.length, form l[k + 1] = some true → cmpS l[k + 1] (l[k]'(by omega)) ≤ 0 → step ((k + 1 : Nat) : Int) = some (.inr (.inl 8)))
  (hyes : ∀ k : Nat, ∀ h : k < l.length, form l[k] = some true → (∀ h0 : 0 < k, ¬ cmpS l[k] (l[k - 1]'(by omega)) ≤ 0) → step k = some (.inl ((k : Int) + 1))) :
  ∀ (n k : Nat), l.length - k = n → (∃ f : Int, f ≠ 0 ∧ Zl step (k : Int) = some (.inl f)) ∨ (Zl step (k : Int) = some (.inr ()) ∧ (∀ x ∈ l.drop k, form x = some true) ∧ ∀ i : Nat, ∀ h : i + 1 < l.length, k ≤ i + 1 → cmpS (l[i]'(by omega)) l[i + 1] < 0) := by
 intro n
 induction n with
 | zero =>
  intro k hn
  refine .inr ⟨Z1 (hend k (by omega)), fun x hx => ?_, fun i h hki => by omega⟩
  rw [List.drop_eq_nil_of_le (by omega)] at hx
  cases hx
 | succ n ih =>
  intro k hn
  have hlt : k < l.length := by omega
  obtain ⟨b, hb⟩ := hform _ (List.getElem_mem hlt)
  cases b with
  | false => exact .inl ⟨3, by decide, Z1 (hno k hlt hb)⟩
  | true =>
   by_cases hbd : ∃ h0 : 0 < k, cmpS l[k] (l[k - 1]'(by omega)) ≤ 0
   ·obtain ⟨h0, h1⟩ := hbd
    obtain ⟨k', rfl⟩ : ∃ k', k = k' + 1 := ⟨k - 1, by omega⟩
    exact .inl ⟨8, by decide, Z1 (hbad k' hlt hb h1)⟩
   ·have hs := hyes k hlt hb (fun h0 h => hbd ⟨h0, h⟩)
    rcases ih (k + 1) (by omega) with ⟨f, h1, h2⟩ | ⟨h1, h2, h3⟩
    ·exact .inl ⟨f, h1, (Z3 hs).trans h2⟩
    ·refine .inr ⟨(Z3 hs).trans h1, fun x hx => ?_, fun i hi hki => ?_⟩
     ·rw [List.drop_eq_getElem_cons hlt] at hx
      rcases List.mem_cons.1 hx with rfl | hx
      ·exact hb
      ·exact h2 x hx
     ·rcases Nat.lt_or_ge i k with h4 | h4
      ·have e : k = i + 1 := by omega
       subst e
       have h5 : ¬ cmpS l[i + 1] (l[i]'(by omega)) ≤ 0 := fun h => hbd ⟨by omega, h⟩
       have := Z7o l[i + 1] (l[i]'(by omega))
       omega
      ·exact h3 i hi (by omega)
end Go.Proofs.YtafalbofjmfbnaaDoor
set_option linter.unusedVariables false
set_option linter.unusedSimpArgs false
namespace Go.Proofs.YtafalbofjmfbnaaDoor
open Go Go.Proofs.YtafalbofjmfbnaaDoor.Eng
theorem Z4l (s p : ByteArray) (hs : s.size ≤ BIG) : ∃ b, Qj.f s p = some b ∧ (b = true → p.size ≤ s.size) := by
 have hb : BIG = 140737488355328 := rfl
 unfold Qj.f
 simp only [Z2]
 by_cases h : ((p.size : Nat) : Int) ≤ ((s.size : Nat) : Int)
 ·rw [if_pos h, Zd (by omega) (by omega), Z0 (by omega)]
  exact ⟨_, rfl, fun _ => by omega⟩
 ·rw [if_neg h]; exact ⟨_, rfl, fun h => by cases h⟩
theorem Z80 {s : ByteArray} (hs : s.size ≤ BIG) : ∃ b, Q1i.f s = some b := by
 have hb : BIG = 140737488355328 := rfl
 have hc : (cutP s Q27).1.size ≤ s.size := by
  unfold cutP
  split
  ·show (s.extract _ _).size ≤ _; rw [Z13]; omega
  ·exact Nat.le_refl _
 unfold Q1i.f Q1f.f Qu.f Q1h.f
 simp only [Z3y, ob_s, Z2, Z15]
 cases (cutP s Q27).2 with
 | false => exact ⟨_, rfl⟩
 | true =>
  rw [cb_t]
  by_cases e1 : (cutP s Q27).1 = bs_
  ·rw [if_pos e1]; exact ⟨_, rfl⟩
  ·rw [if_neg e1]
   by_cases e2 : (cutP s Q27).1 = Q2m
   ·rw [if_pos e2]; exact ⟨_, rfl⟩
   ·rw [if_neg e2]
    obtain ⟨b, h1, h2⟩ := Z4l (cutP s Q27).1 Q2d (by omega)
    have fin : ∀ t : ByteArray, t.size ≤ BIG → ∃ b, (ob (Qn.f t) fun r3 => cb r3 (if t = Q2m then some false else ob (ob (Qj.f t Q2d) fun r1 => some r1) fun r4 => some (!r4)) (some false)) = some b := fun t ht => by
     rw [Z3v, ob_s]
     cases Z1q t with
     | false => exact ⟨_, rfl⟩
     | true =>
      rw [cb_t]
      split
      ·exact ⟨_, rfl⟩
      ·obtain ⟨b, h1, _⟩ := Z4l t Q2d ht
       rw [h1]; exact ⟨_, rfl⟩
    rw [h1, ob_s]
    cases b with
    | false => exact fin _ (by omega)
    | true =>
     have := h2 rfl
     simp only [cb_t]
     rw [Zd (by omega) (by omega), Z0 (by omega)]
     refine fin _ ?_
     rw [Z13]; omega
end Go.Proofs.YtafalbofjmfbnaaDoor
set_option linter.unusedVariables false
set_option linter.unusedSimpArgs false
namespace Go.Proofs.YtafalbofjmfbnaaDoor
open Go Go.Proofs.YtafalbofjmfbnaaDoor.Eng
theorem ck_rfl {β α : Type} {x : α} {a : Option β} : ck (x = x) a = a := Z0 rfl
theorem Zhn {l : List ByteArray} (hl : l.length ≤ 1000000000) (hs : ∀ x ∈ l, x.size ≤ BIG) : (∃ f : Int, f ≠ 0 ∧ Qd.f l () = some f) ∨ (Qd.f l () = some 0 ∧ (∀ x ∈ l, Q1a.f x = some true) ∧ Rising l) := by
 have h := Z90 hl Q1a.f (fun x hx => Z6f (hs x hx)) (fun x => Qd.s0 l l (l.length : Int) x) (fun k hk => by
   simp only [Qd.s0, Z2]; rw [if_neg (by omega)]) (fun k hk hf => by
   simp only [Qd.s0, Z2, Zj hk, hf, ob_s]; rw [if_pos (by omega), Z0 (by omega)]; rfl) (fun k hk hf hc => by
   have hk' : k < l.length := by omega
   have e : ((k + 1 : Nat) : Int) - 1 = (k : Int) := by omega
   simp only [Qd.s0, Z2, Zj hk, hf, ob_s, Bool.not_true, cb_f, e, Zj hk', Z3t]
   rw [if_pos (by omega), Z0 (by omega), if_pos (by omega), Zd (by omega) (by omega), Z0 (by omega), if_pos hc]) (fun k hk hf hc => by
   rcases Nat.eq_zero_or_pos k with h0 | h0
   ·subst h0
    simp only [Qd.s0, Z2, Zj hk, hf, ob_s, Bool.not_true, cb_f]
    rw [if_pos (by omega), Z0 (by omega), if_neg (by omega), Zd (by omega) (by omega)]
   ·obtain ⟨k', rfl⟩ : ∃ k', k = k' + 1 := ⟨k - 1, by omega⟩
    have hk' : k' < l.length := by omega
    have e : ((k' + 1 : Nat) : Int) - 1 = (k' : Int) := by omega
    have hc' := hc h0
    simp only [Nat.add_sub_cancel] at hc'
    simp only [Qd.s0, Z2, Zj hk, hf, ob_s, Bool.not_true, cb_f, e, Zj hk', Z3t]
    rw [if_pos (by omega), Z0 (by omega), if_pos (by omega), Zd (by omega) (by omega), Z0 (by omega), if_neg hc', Zd (by omega) (by omega)]) l.length 0 (by omega)
 unfold Qd.f
 show (∃ f : Int, f ≠ 0 ∧ ob (Zl (fun x => Qd.s0 l l (l.length : Int) x) ((0 : Nat) : Int)) _ = _) ∨ (ob (Zl (fun x => Qd.s0 l l (l.length : Int) x) ((0 : Nat) : Int)) _ = _ ∧ _)
 rcases h with ⟨f, h1, h2⟩ | ⟨h1, h2, h3⟩
 ·rw [h2]; exact .inl ⟨f, h1, rfl⟩
 ·rw [h1]; exact .inr ⟨rfl, fun x hx => h2 x (by simpa using hx), Z73 fun k hk => h3 k hk (by omega)⟩
theorem risingW {l : List ByteArray} (hl : l.length ≤ 1000000000) (hs : ∀ x ∈ l, x.size ≤ BIG) : ∃ f, Qd.f l () = some f ∧ (f = 0 → Rising l) := by
 rcases Zhn hl hs with ⟨f, h1, h2⟩ | ⟨h1, _, h2⟩
 ·exact ⟨f, h2, fun h => absurd h h1⟩
 ·exact ⟨0, h1, fun _ => h2⟩
theorem risingP {l : List ByteArray} (hl : l.length ≤ 1000000000) : ∃ f, Qi.f l () = some f := by
 have h := Z90 hl Qn.f (fun x hx => ⟨_, Z3v x⟩) (fun x => Qi.s0 l l (l.length : Int) x) (fun k hk => by
   simp only [Qi.s0, Z2]; rw [if_neg (by omega)]) (fun k hk hf => by
   simp only [Qi.s0, Z2, Zj hk, hf, ob_s]; rw [if_pos (by omega), Z0 (by omega)]; rfl) (fun k hk hf hc => by
   have hk' : k < l.length := by omega
   have e : ((k + 1 : Nat) : Int) - 1 = (k : Int) := by omega
   simp only [Qi.s0, Z2, Zj hk, hf, ob_s, Bool.not_true, cb_f, e, Zj hk', Z3t]
   rw [if_pos (by omega), Z0 (by omega), if_pos (by omega), Zd (by omega) (by omega), Z0 (by omega), if_pos hc]) (fun k hk hf hc => by
   rcases Nat.eq_zero_or_pos k with h0 | h0
   ·subst h0
    simp only [Qi.s0, Z2, Zj hk, hf, ob_s, Bool.not_true, cb_f]
    rw [if_pos (by omega), Z0 (by omega), if_neg (by omega), Zd (by omega) (by omega)]
   ·obtain ⟨k', rfl⟩ : ∃ k', k = k' + 1 := ⟨k - 1, by omega⟩
    have hk' : k' < l.length := by omega
    have e : ((k' + 1 : Nat) : Int) - 1 = (k' : Int) := by omega
    have hc' := hc h0
    simp only [Nat.add_sub_cancel] at hc'
    simp only [Qi.s0, Z2, Zj hk, hf, ob_s, Bool.not_true, cb_f, e, Zj hk', Z3t]
    rw [if_pos (by omega), Z0 (by omega), if_pos (by omega), Zd (by omega) (by omega), Z0 (by omega), if_neg hc', Zd (by omega) (by omega)]) l.length 0 (by omega)
 unfold Qi.f
 show ∃ f, ob (Zl (fun x => Qi.s0 l l (l.length : Int) x) ((0 : Nat) : Int)) _ = _
 rcases h with ⟨f, h1, h2⟩ | ⟨h1, _, h3⟩
 ·rw [h2]; exact ⟨f, rfl⟩
 ·rw [h1]; exact ⟨0, rfl⟩
theorem risingN {l : List ByteArray} (hl : l.length ≤ 1000000000) (hs : ∀ x ∈ l, x.size ≤ BIG) : ∃ f, Qh.f l () = some f := by
 have h := Z90 hl Q1i.f (fun x hx => Z80 (hs x hx)) (fun x => Qh.s0 l l (l.length : Int) x) (fun k hk => by
   simp only [Qh.s0, Z2]; rw [if_neg (by omega)]) (fun k hk hf => by
   simp only [Qh.s0, Z2, Zj hk, hf, ob_s]; rw [if_pos (by omega), Z0 (by omega)]; rfl) (fun k hk hf hc => by
   have hk' : k < l.length := by omega
   have e : ((k + 1 : Nat) : Int) - 1 = (k : Int) := by omega
   simp only [Qh.s0, Z2, Zj hk, hf, ob_s, Bool.not_true, cb_f, e, Zj hk', Z3t]
   rw [if_pos (by omega), Z0 (by omega), if_pos (by omega), Zd (by omega) (by omega), Z0 (by omega), if_pos hc]) (fun k hk hf hc => by
   rcases Nat.eq_zero_or_pos k with h0 | h0
   ·subst h0
    simp only [Qh.s0, Z2, Zj hk, hf, ob_s, Bool.not_true, cb_f]
    rw [if_pos (by omega), Z0 (by omega), if_neg (by omega), Zd (by omega) (by omega)]
   ·obtain ⟨k', rfl⟩ : ∃ k', k = k' + 1 := ⟨k - 1, by omega⟩
    have hk' : k' < l.length := by omega
    have e : ((k' + 1 : Nat) : Int) - 1 = (k' : Int) := by omega
    have hc' := hc h0
    simp only [Nat.add_sub_cancel] at hc'
    simp only [Qh.s0, Z2, Zj hk, hf, ob_s, Bool.not_true, cb_f, e, Zj hk', Z3t]
    rw [if_pos (by omega), Z0 (by omega), if_pos (by omega), Zd (by omega) (by omega), Z0 (by omega), if_neg hc', Zd (by omega) (by omega)]) l.length 0 (by omega)
 unfold Qh.f
 show ∃ f, ob (Zl (fun x => Qh.s0 l l (l.length : Int) x) ((0 : Nat) : Int)) _ = _
 rcases h with ⟨f, h1, h2⟩ | ⟨h1, _, h3⟩
 ·rw [h2]; exact ⟨f, rfl⟩
 ·rw [h1]; exact ⟨0, rfl⟩
def szNd (n : Nd) : Prop := n.1.size ≤ BIG ∧ (∀ x ∈ n.2.2.1, x.size ≤ BIG) ∧ (∀ x ∈ n.2.2.2.1, x.size ≤ BIG) ∧ ∀ x ∈ n.2.2.2.2.1, x.size ≤ BIG
theorem Z4n {n : Nd} (h : szNd n) : ∃ f, Q1b.f n = some f ∧ (f = 0 → n.2.2.1.length ≤ 300 ∧ Rising n.2.2.1 ∧ 0 ≤ n.2.2.2.2.2 ∧ n.2.2.2.2.2 ≤ 1000000 ∧ n.2.2.2.1.length ≤ 1000) := by
 unfold Q1b.f
 obtain ⟨b1, h1⟩ := Z6f h.1
 obtain ⟨b2, h2⟩ := Zcx (s := n.2.1)
 simp only [h1, h2, ob_s, Z2, Z15]
 cases b1 with
 | false => exact ⟨3, rfl, fun h => by cases h⟩
 | true =>
  cases b2 with
  | false => exact ⟨5, rfl, fun h => by cases h⟩
  | true =>
   simp only [cb_t]
   by_cases c1 : (300 : Int) < ((n.2.2.1.length : Nat) : Int)
   ·rw [if_pos c1]; exact ⟨2, rfl, fun h => by cases h⟩
   ·rw [if_neg c1]
    obtain ⟨f1, g1, g2⟩ := risingW (l := n.2.2.1) (by omega) h.2.1
    rw [g1, ob_s]
    by_cases e1 : f1 = 0
    ·rw [if_pos e1]
     by_cases c2 : (1000 : Int) < ((n.2.2.2.1.length : Nat) : Int)
     ·rw [if_pos c2]; exact ⟨2, rfl, fun h => by cases h⟩
     ·rw [if_neg c2]
      obtain ⟨f2, g3⟩ := risingP (l := n.2.2.2.1) (by omega)
      rw [g3, ob_s]
      by_cases e2 : f2 = 0
      ·rw [if_pos e2]
       by_cases c3 : (50 : Int) < ((n.2.2.2.2.1.length : Nat) : Int)
       ·rw [if_pos c3]; exact ⟨2, rfl, fun h => by cases h⟩
       ·rw [if_neg c3]
        obtain ⟨f3, g4⟩ := risingN (l := n.2.2.2.2.1) (by omega) h.2.2.2
        rw [g4, ob_s]
        by_cases e3 : f3 = 0
        ·rw [if_pos e3]
         by_cases c4 : n.2.2.2.2.2 < 0
         ·rw [if_pos c4]; exact ⟨1, rfl, fun h => by cases h⟩
         ·rw [if_neg c4]
          by_cases c5 : 1000000 < n.2.2.2.2.2
          ·rw [if_pos c5]; exact ⟨1, rfl, fun h => by cases h⟩
          ·rw [if_neg c5]; exact ⟨0, rfl, fun _ => ⟨by omega, g2 e1, by omega, by omega, by omega⟩⟩
        ·rw [if_neg e3]; exact ⟨f3, rfl, fun h => absurd h e3⟩
      ·rw [if_neg e2]; exact ⟨f2, rfl, fun h => absurd h e2⟩
    ·rw [if_neg e1]; exact ⟨f1, rfl, fun h => absurd h e1⟩
theorem Zh1 (n : Nd) (s : ByteArray) : Q23.f n s = some (cmpS n.1 s) := rfl
def labs (g : List Nd) : List ByteArray := g.map (·.1)
theorem Z2n {g : List Nd} {k : Nat} (h : k < g.length) : (labs g)[k]'(by unfold labs; simpa using h) = g[k].1 := by simp [labs]
theorem half {a b : Nat} (ha : a ≤ 1000000) (hb : b ≤ 1000000) : IntKind.i64.wrap (Int.fdiv (IntKind.u64.wrap ((a : Int) + (b : Int))) (2 ^ min (Int.toNat (1 : Int)) (IntKind.bits .u64))) = ((a + b) / 2 : Nat) := by
 have e1 : IntKind.u64.wrap ((a : Int) + (b : Int)) = ((a + b : Nat) : Int) := by
  simp only [IntKind.wrap, IntKind.bits, IntKind.signed, Bool.false_and, Bool.false_eq_true, if_false]
  have e : (2 : Int) ^ 64 = 18446744073709551616 := by decide
  rw [e]; omega
 have e2 : (2 : Int) ^ min (Int.toNat (1 : Int)) (IntKind.bits .u64) = 2 := by decide
 rw [e1, e2]
 have e3 : Int.fdiv ((a + b : Nat) : Int) 2 = ((a + b) / 2 : Nat) := by
  rw [Int.fdiv_eq_ediv_of_nonneg _ (by decide)]; omega
 rw [e3]
 exact IntWalk.i64_in _ ⟨by omega, by omega⟩
theorem at_ok {g : List Nd} (hl : g.length ≤ 1000) (hr : Rising (labs g)) (s : ByteArray) : ∃ r, Q1t.f g s = some r ∧ ((r = -1 ∧ ∀ k : Nat, ∀ h : k < g.length, g[k].1 ≠ s) ∨ ∃ k : Nat, r = k ∧ ∃ h : k < g.length, g[k].1 = s) := by
 have go : ∀ (n a b : Nat), b - a = n → a ≤ b → b ≤ g.length → (∀ k : Nat, ∀ h : k < g.length, k < a → cmpS g[k].1 s < 0) → (∀ k : Nat, ∀ h : k < g.length, b ≤ k → ¬ cmpS g[k].1 s < 0) →
   ∃ c : Nat, Q0.l0 g s (a : Int) (b : Int) = some (c : Int) ∧ c ≤ g.length ∧ (∀ k : Nat, ∀ h : k < g.length, k < c → cmpS g[k].1 s < 0) ∧ (∀ k : Nat, ∀ h : k < g.length, c ≤ k → ¬ cmpS g[k].1 s < 0) := by
  intro n
  induction n using Nat.strongRecOn with
  | _ n ih =>
   intro a b hn hab hb h1 h2
   rcases Nat.lt_or_ge a b with hlt | hge
   ·have hm : (a + b) / 2 < g.length := by omega
    have hh := half (a := a) (b := b) (by omega) (by omega)
    have hmono : ∀ i j : Nat, ∀ hi : i < g.length, ∀ hj : j < g.length, i < j → cmpS g[i].1 g[j].1 < 0 := fun i j hi hj hij => by
     have := hr i j (by unfold labs; simpa using hj) hij
     rw [Z2n hi, Z2n hj] at this
     exact this
    by_cases hc : cmpS g[(a + b) / 2].1 s < 0
    ·obtain ⟨c, h3, h4⟩ := ih (b - ((a + b) / 2 + 1)) (by omega) ((a + b) / 2 + 1) b rfl (by omega) hb (fun k hk hka => by
      rcases Nat.lt_or_ge k ((a + b) / 2) with h | h
      ·exact Z66 (hmono k _ hk hm h) hc
      ·have : k = (a + b) / 2 := by omega
       subst this; exact hc) h2
     refine ⟨c, (Z3 ?_).trans h3, h4⟩
     simp only [Q0.s0, Z2, hh, Zj hm, Zh1, ob_s]
     rw [if_pos (by omega), Zd (by omega) (by omega), Z0 (by omega), if_pos hc, Zd (by omega) (by omega)]
     rfl
    ·obtain ⟨c, h3, h4⟩ := ih ((a + b) / 2 - a) (by omega) a ((a + b) / 2) rfl (by omega) (by omega) h1 (fun k hk hka => by
      intro h
      rcases Nat.lt_or_ge ((a + b) / 2) k with h5 | h5
      ·exact hc (Z66 (hmono _ k hm hk h5) h)
      ·have : k = (a + b) / 2 := by omega
       subst this; exact hc h)
     refine ⟨c, (Z3 ?_).trans h3, h4⟩
     simp only [Q0.s0, Z2, hh, Zj hm, Zh1, ob_s]
     rw [if_pos (by omega), Zd (by omega) (by omega), Z0 (by omega), if_neg hc]
   ·have e : a = b := by omega
    subst e
    refine ⟨a, Z1 ?_, hb, h1, h2⟩
    simp only [Q0.s0, Z2]
    rw [if_neg (by omega)]
 obtain ⟨c, h1, h2, h3, h4⟩ := go _ 0 g.length rfl (Nat.zero_le _) (Nat.le_refl _) (fun k _ h => absurd h (Nat.not_lt_zero _)) (fun k hk h => by omega)
 rw [show ((0 : Nat) : Int) = 0 from rfl] at h1
 unfold Q1t.f Q0.f
 simp only [h1, ob_s, Z2]
 by_cases hc : c < g.length
 ·rw [if_pos (by omega), Z0 (by omega)]
  simp only [Zj hc, Zh1, ob_s]
  by_cases h0 : cmpS g[c].1 s = 0
  ·simp only [h0, decide_true, Bool.not_true, cb_f]
   exact ⟨c, rfl, .inr ⟨c, rfl, hc, (Z3f _ _).1 h0⟩⟩
  ·simp only [h0, decide_false, Bool.not_false, cb_t]
   refine ⟨-1, rfl, .inl ⟨rfl, fun k hk e => ?_⟩⟩
   have hz : cmpS g[k].1 s = 0 := (Z3f _ _).2 e
   rcases Nat.lt_trichotomy k c with h | h | h
   ·have := h3 k hk h; omega
   ·subst h; exact h0 hz
   ·have h5 := hr c k (by unfold labs; simpa using hk) h
    rw [Z2n hc, Z2n hk, e] at h5
    exact h4 c hc (Nat.le_refl _) h5
 ·rw [if_neg (by omega)]
  simp only [ob_s, Bool.not_false, cb_t]
  refine ⟨-1, rfl, .inl ⟨rfl, fun k hk e => ?_⟩⟩
  have hz : cmpS g[k].1 s = 0 := (Z3f _ _).2 e
  have := h3 k hk (by omega)
  omega
noncomputable def posI (g : List Nd) (s : ByteArray) : Int := (Q1t.f g s).getD (-1)
theorem Zdi {g : List Nd} (hl : g.length ≤ 1000) (hr : Rising (labs g)) (s : ByteArray) : Q1t.f g s = some (posI g s) ∧ ((posI g s = -1 ∧ ∀ k : Nat, ∀ h : k < g.length, g[k].1 ≠ s) ∨ ∃ k : Nat, posI g s = k ∧ ∃ h : k < g.length, g[k].1 = s) := by
 obtain ⟨r, h1, h2⟩ := at_ok hl hr s
 have e : posI g s = r := by unfold posI; rw [h1]; rfl
 rw [e]
 exact ⟨h1, h2⟩
end Go.Proofs.YtafalbofjmfbnaaDoor
set_option linter.unusedVariables false
set_option linter.unusedSimpArgs false
namespace Go.Proofs.YtafalbofjmfbnaaDoor
open Go Go.Proofs.YtafalbofjmfbnaaDoor.Eng
theorem Z82 {β : Type} {a : Option β} : ck True a = a := Z0 trivial
noncomputable def Zz (g : List Nd) : List (List Int) := g.map fun n => n.2.2.1.map (posI g)
noncomputable def D (g : List Nd) (i : Nat) : List Int := (Zz g).getD i []
noncomputable def U (g : List Nd) (i k : Nat) : List Int := ((List.range i).filter fun i' => decide ((k : Int) ∈ D g i')).map fun x : Nat => (x : Int)
noncomputable def Zf (g : List Nd) : List (List Int) := (List.range g.length).map fun k => U g g.length k
theorem Z83 {g : List Nd} {i : Nat} (h : i < g.length) : D g i = g[i].2.2.1.map (posI g) := by
 simp [D, Zz, List.getD, h]
theorem U_succ (g : List Nd) (i k : Nat) : U g (i + 1) k = U g i k ++ (if (k : Int) ∈ D g i then [(i : Int)] else []) := by
 unfold U
 rw [List.range_succ, List.filter_append, List.map_append]
 congr 1
 by_cases h : (k : Int) ∈ D g i
 ·simp [h]
 ·simp [h]
theorem Ziv (g : List Nd) (i k : Nat) : (U g i k).length ≤ i := by
 unfold U
 rw [List.length_map]
 exact Nat.le_trans (List.length_filter_le _ _) (by simp)
structure Right (g : List Nd) : Prop where
 len : g.length ≤ 1000
 lab : Rising (labs g)
 nd : ∀ n ∈ g, n.2.2.1.length ≤ 300 ∧ Rising n.2.2.1 ∧ 0 ≤ n.2.2.2.2.2 ∧ n.2.2.2.2.2 ≤ 1000000
 dep : ∀ n ∈ g, ∀ s ∈ n.2.2.1, 0 ≤ posI g s
section
variable {g : List Nd}
theorem Right.at (h : Right g) (s : ByteArray) : Q1t.f g s = some (posI g s) ∧ ((posI g s = -1 ∧ ∀ k : Nat, ∀ h : k < g.length, g[k].1 ≠ s) ∨ ∃ k : Nat, posI g s = k ∧ ∃ h : k < g.length, g[k].1 = s) := Zdi h.len h.lab s
end
structure Inv (g : List Nd) (i j : Nat) (dps usr : List (List Int)) : Prop where
 dl : dps.length = g.length
 ul : usr.length = g.length
 d : ∀ q, q < g.length → dps.getD q [] = if q < i then D g q else if q = i then (D g i).take j else []
 u : ∀ k, k < g.length → usr.getD k [] = U g i k ++ (if (k : Int) ∈ (D g i).take j then [(i : Int)] else [])
theorem Inv.next {g : List Nd} {i : Nat} {dps usr : List (List Int)} (h : Inv g i (D g i).length dps usr) : Inv g (i + 1) 0 dps usr := by
 refine ⟨h.dl, h.ul, fun q hq => ?_, fun k hk => ?_⟩
 ·rw [h.d q hq]
  rcases Nat.lt_trichotomy q i with h1 | h1 | h1
  ·rw [if_pos h1, if_pos (by omega)]
  ·subst h1; rw [if_neg (by omega), if_pos rfl, if_pos (by omega), List.take_of_length_le (Nat.le_refl _)]
  ·rw [if_neg (by omega), if_neg (by omega), if_neg (by omega)]
   split
   ·rfl
   ·rfl
 ·rw [h.u k hk, U_succ, List.take_of_length_le (Nat.le_refl _), List.take_zero]
  simp
theorem getD_set {α : Type} (l : List α) (i : Nat) (x : α) (q : Nat) (d : α) (hi : i < l.length) : (l.set i x).getD q d = if q = i then x else l.getD q d := by
 unfold List.getD
 rw [List.getElem?_set]
 by_cases h : i = q
 ·subst h; rw [if_pos rfl, if_pos hi, if_pos rfl]; rfl
 ·rw [if_neg h, if_neg (fun e => h e.symm)]
theorem Inv.step {g : List Nd} {i j d : Nat} {dps usr : List (List Int)} (h : Inv g i j dps usr) (hi : i < g.length) (hd : d < g.length) (hj : j < (D g i).length) (he : (D g i)[j] = (d : Int)) (hno : (d : Int) ∉ (D g i).take j) :
  Inv g i (j + 1) (dps.set i (dps.getD i [] ++ [(d : Int)])) (usr.set d (usr.getD d [] ++ [(i : Int)])) := by
 have ht : (D g i).take (j + 1) = (D g i).take j ++ [(d : Int)] := by rw [List.take_succ_eq_append_getElem hj, he]
 refine ⟨by simpa using h.dl, by simpa using h.ul, fun q hq => ?_, fun k hk => ?_⟩
 ·rw [getD_set _ _ _ _ _ (by rw [h.dl]; exact hi)]
  by_cases hqi : q = i
  ·subst hqi
   have := h.d q hq
   rw [if_neg (by omega), if_pos rfl] at this
   rw [if_pos rfl, if_neg (by omega), if_pos rfl, this, ht]
  ·rw [if_neg hqi, h.d q hq]
   split
   ·rfl
   ·rfl
 ·rw [getD_set _ _ _ _ _ (by rw [h.ul]; exact hd), ht]
  by_cases hkd : k = d
  ·subst hkd
   have := h.u k hk
   rw [if_neg hno, List.append_nil] at this
   rw [if_pos rfl, this, if_pos (by simp)]
  ·rw [if_neg hkd, h.u k hk]
   have e : (k : Int) ∈ (D g i).take j ++ [(d : Int)] ↔ (k : Int) ∈ (D g i).take j := by
    simp only [List.mem_append, List.mem_singleton]
    constructor
    ·intro h
     rcases h with h | h
     ·exact h
     ·exact absurd (by omega : k = d) hkd
    ·exact .inl
   by_cases hm : (k : Int) ∈ (D g i).take j
   ·rw [if_pos hm, if_pos (e.2 hm)]
   ·rw [if_neg hm, if_neg (fun h => hm (e.1 h))]
theorem Zha {g : List Nd} (hl : g.length ≤ 1000) (hr : Rising (labs g)) {i : Nat} (hi : i < g.length) (hri : Rising g[i].2.2.1) {j : Nat} (hj : j < g[i].2.2.1.length) {d : Nat} (hp : posI g g[i].2.2.1[j] = (d : Int)) : (d : Int) ∉ (D g i).take j := by
 intro hm
 obtain ⟨q, hq, he⟩ := List.getElem_of_mem hm
 have hql : q < j := by have := hq; simp at this; omega
 have hqs : q < g[i].2.2.1.length := by omega
 rw [List.getElem_take] at he
 simp only [Z83 hi, List.getElem_map] at he
 have h1 := (Zdi hl hr g[i].2.2.1[j]).2
 have h2 := (Zdi hl hr g[i].2.2.1[q]).2
 rcases h1 with ⟨h1, _⟩ | ⟨a, h1, ha, hb⟩
 ·omega
 ·rcases h2 with ⟨h2, _⟩ | ⟨c, h2, hc, hd⟩
  ·omega
  ·have e : a = c := by omega
   subst e
   have := hri q j hj hql
   rw [← hb, ← hd] at this
   have h0 := (Z3f g[a].1 g[a].1).2 rfl
   omega
theorem openIn {g : List Nd} (hl : g.length ≤ 1000) (hr : Rising (labs g)) {i : Nat} (hi : i < g.length) (hn : g[i].2.2.1.length ≤ 300) (hri : Rising g[i].2.2.1) :
  ∀ (n j : Nat) (dps usr : List (List Int)), g[i].2.2.1.length - j = n → j ≤ g[i].2.2.1.length → Inv g i j dps usr →
   Q8.l2 g (i : Int) g[i].2.2.1 (g[i].2.2.1.length : Int) (j : Int) dps usr g = some (.inl (none, 9)) ∧ (∃ s ∈ g[i].2.2.1, posI g s < 0) ∨
   ∃ dps' usr', Q8.l2 g (i : Int) g[i].2.2.1 (g[i].2.2.1.length : Int) (j : Int) dps usr g = some (.inr (dps', usr', g)) ∧ Inv g i (D g i).length dps' usr' ∧ ∀ s ∈ g[i].2.2.1.drop j, 0 ≤ posI g s := by
 have hDl : (D g i).length = g[i].2.2.1.length := by rw [Z83 hi, List.length_map]
 intro n
 induction n with
 | zero =>
  intro j dps usr hn' hj inv
  have e : j = (D g i).length := by omega
  refine .inr ⟨dps, usr, Z1 ?_, e ▸ inv, fun s hs => ?_⟩
  ·simp only [Q8.s2, Z2]
   rw [if_neg (by omega)]
  ·rw [List.drop_eq_nil_of_le (by omega)] at hs; cases hs
 | succ n ih =>
  intro j dps usr hn' hj inv
  have hlt : j < g[i].2.2.1.length := by omega
  obtain ⟨ha, hp⟩ := Zdi hl hr g[i].2.2.1[j]
  rcases hp with ⟨hp, _⟩ | ⟨d, hp, hd, he⟩
  ·left
   refine ⟨Z1 ?_, _, List.getElem_mem hlt, by omega⟩
   simp only [Q8.s2, Z2, Zj hlt, ha, hp, ob_s]
   rw [if_pos (by omega), Z0 (by omega), if_pos (by decide)]
  ·have hDj : (D g i)[j]'(by omega) = (d : Int) := by simp only [Z83 hi, List.getElem_map]; exact hp
   have hno := Zha hl hr hi hri hlt hp
   have inv' := inv.step hi hd (by omega) hDj hno
   have c0 : 0 ≤ (j : Int) ∧ (j : Int) < (g[i].2.2.1.length : Int) := by omega
   have c1 : ¬ (d : Int) < 0 := by omega
   have hdl := inv.dl
   have hul := inv.ul
   have c2 : 0 ≤ (i : Int) ∧ (i : Int) < (dps.length : Int) := by omega
   have c3 : i < dps.length := by omega
   have hrow : (dps.getD i []).length ≤ 300 := by
    rw [inv.d i hi, if_neg (by omega), if_pos rfl, List.length_take]; omega
   have hurow : (usr.getD d []).length ≤ 1001 := by
    have := Ziv g i d
    rw [inv.u d hd, List.length_append]
    split <;> simp only [List.length_cons, List.length_nil] <;> omega
   have c4 : i < dps.length ∧ ((dps.getD i []).length + [(d : Int)].length) * 8 ≤ 140737488355328 := ⟨c3, by simp only [List.length_cons, List.length_nil]; omega⟩
   have c5 : 0 ≤ (d : Int) ∧ (d : Int) < (usr.length : Int) := by omega
   have c6 : d < usr.length := by omega
   have c7 : d < usr.length ∧ ((usr.getD d []).length + [(i : Int)].length) * 8 ≤ 140737488355328 := ⟨c6, by simp only [List.length_cons, List.length_nil]; omega⟩
   have c8 : InR ((j : Int) + 1) := ⟨by omega, by omega⟩
   have hstep : Q8.s2 g (i : Int) g[i].2.2.1 (g[i].2.2.1.length : Int) (j : Int) dps usr g = some (.inl ((j : Int) + 1, dps.set i (dps.getD i [] ++ [(d : Int)]), usr.set d (usr.getD d [] ++ [(i : Int)]), g)) := by
    simp only [Q8.s2, Z2, Zj hlt, ha, hp, ob_s, if_pos c0.2, Z0 c0, if_neg c1, mix_eq, Int.toNat_natCast, List.length_set, Z0 c2, Z0 c3, Z0 c4, Z0 c5, Z0 c6, Z0 c7, Z0 c8, ck_rfl, Z40, Z82]
   rcases ih (j + 1) _ _ (by omega) (by omega) inv' with ⟨h, hb⟩ | ⟨d', u', h1, h2, h3⟩
   ·exact .inl ⟨(Z3 hstep).trans h, hb⟩
   ·refine .inr ⟨d', u', (Z3 hstep).trans h1, h2, fun s hs => ?_⟩
    rw [List.drop_eq_getElem_cons hlt] at hs
    rcases List.mem_cons.1 hs with rfl | hs
    ·omega
    ·exact h3 s hs
theorem openOut {g : List Nd} (hl : g.length ≤ 1000) (hr : Rising (labs g)) (hnd : ∀ n ∈ g, n.2.2.1.length ≤ 300 ∧ Rising n.2.2.1) :
  ∀ (n i : Nat) (dps usr : List (List Int)), g.length - i = n → i ≤ g.length → Inv g i 0 dps usr →
   Q8.l1 g g (g.length : Int) (i : Int) dps usr g = some (.inl (none, 9)) ∧ (∃ n ∈ g, ∃ s ∈ n.2.2.1, posI g s < 0) ∨
   ∃ dps' usr', Q8.l1 g g (g.length : Int) (i : Int) dps usr g = some (.inr (dps', usr', g)) ∧ Inv g g.length 0 dps' usr' ∧ ∀ n ∈ g.drop i, ∀ s ∈ n.2.2.1, 0 ≤ posI g s := by
 intro n
 induction n with
 | zero =>
  intro i dps usr hn hi inv
  have e : i = g.length := by omega
  refine .inr ⟨dps, usr, Z1 ?_, e ▸ inv, fun s hs => ?_⟩
  ·simp only [Q8.s1, Z2]
   rw [if_neg (by omega)]
  ·rw [List.drop_eq_nil_of_le (by omega)] at hs; cases hs
 | succ n ih =>
  intro i dps usr hn hi inv
  have hlt : i < g.length := by omega
  obtain ⟨h1, h2⟩ := hnd _ (List.getElem_mem hlt)
  rcases openIn hl hr hlt h1 h2 _ 0 dps usr rfl (Nat.zero_le _) inv with ⟨h, hb⟩ | ⟨d', u', h3, h4, h5⟩
  ·left
   rw [show ((0 : Nat) : Int) = 0 from rfl] at h
   refine ⟨Z1 ?_, _, List.getElem_mem hlt, hb⟩
   simp only [Q8.s1, Z2, Zj hlt, h, ob_s, Za2]
   rw [if_pos (by omega), Z0 (by omega)]
  ·rw [show ((0 : Nat) : Int) = 0 from rfl] at h3
   have hstep : Q8.s1 g g (g.length : Int) (i : Int) dps usr g = some (.inl ((i : Int) + 1, d', u', g)) := by
    simp only [Q8.s1, Z2, Zj hlt, h3, ob_s, Z23]
    rw [if_pos (by omega), Z0 (by omega), Zd (by omega) (by omega)]
   rcases ih (i + 1) d' u' (by omega) (by omega) h4.next with ⟨h, hb⟩ | ⟨d2, u2, h6, h7, h8⟩
   ·exact .inl ⟨(Z3 hstep).trans h, hb⟩
   ·refine .inr ⟨d2, u2, (Z3 hstep).trans h6, h7, fun n' hn' => ?_⟩
    rw [List.drop_eq_getElem_cons hlt] at hn'
    rcases List.mem_cons.1 hn' with rfl | hn'
    ·simpa using h5
    ·exact h8 n' hn'
def Bad (g : List Nd) : Prop := 1000 < g.length ∨ (∃ n ∈ g, Q1b.f n ≠ some 0) ∨ ¬ Rising (labs g) ∨ ∃ n ∈ g, ∃ s ∈ n.2.2.1, posI g s < 0
def ChkP (g : List Nd) (k : Nat) : Prop := ((∃ f : Int, f ≠ 0 ∧ Q8.l0 g g (g.length : Int) (k : Int) = some (.inl (none, f))) ∧ Bad g) ∨
  (Q8.l0 g g (g.length : Int) (k : Int) = some (.inr ()) ∧ (∀ n ∈ g.drop k, Q1b.f n = some 0 ∧ n.2.2.1.length ≤ 300 ∧ Rising n.2.2.1 ∧ 0 ≤ n.2.2.2.2.2 ∧ n.2.2.2.2.2 ≤ 1000000) ∧ ∀ i : Nat, ∀ h : i + 1 < g.length, k ≤ i + 1 → cmpS (g[i]'(by omega)).1 g[i + 1].1 < 0)
theorem openChk {g : List Nd} (hl : g.length ≤ 1000) (hs : ∀ n ∈ g, szNd n) : ∀ (n k : Nat), g.length - k = n → k ≤ g.length → ChkP g k := by
 intro n
 induction n with
 | zero =>
  intro k hn hk
  refine .inr ⟨Z1 ?_, fun s hs => ?_, fun i h hki => by omega⟩
  ·simp only [Q8.s0, Z2]
   rw [if_neg (by omega)]
  ·rw [List.drop_eq_nil_of_le (by omega)] at hs; cases hs
 | succ n ih =>
  intro k hn hk
  have hlt : k < g.length := by omega
  obtain ⟨f, h1, h2⟩ := Z4n (hs _ (List.getElem_mem hlt))
  by_cases hf : f = 0
  ·subst hf
   have cont : (∀ h0 : 0 < k, ¬ cmpS g[k].1 (g[k - 1]'(by omega)).1 ≤ 0) → Q8.s0 g g (g.length : Int) (k : Int) = some (.inl ((k : Int) + 1)) → ChkP g k := fun hc hstep => by
    rcases ih (k + 1) (by omega) (by omega) with ⟨⟨f, h3, h4⟩, hb⟩ | ⟨h3, h4, h5⟩
    ·exact .inl ⟨⟨f, h3, (Z3 hstep).trans h4⟩, hb⟩
    ·refine .inr ⟨(Z3 hstep).trans h3, fun n' hn' => ?_, fun i hi hki => ?_⟩
     ·rw [List.drop_eq_getElem_cons hlt] at hn'
      rcases List.mem_cons.1 hn' with rfl | hn'
      ·have := h2 rfl; exact ⟨h1, this.1, this.2.1, this.2.2.1, this.2.2.2.1⟩
      ·exact h4 n' hn'
     ·rcases Nat.lt_or_ge i k with h6 | h6
      ·have e : k = i + 1 := by omega
       subst e
       have h7 := hc (by omega)
       have h8 : ¬ cmpS g[i + 1].1 (g[i]'(by omega)).1 ≤ 0 := h7
       have := Z7o g[i + 1].1 (g[i]'(by omega)).1
       omega
      ·exact h5 i hi (by omega)
   rcases Nat.eq_zero_or_pos k with h0 | h0
   ·subst h0
    refine cont (fun h => absurd h (Nat.lt_irrefl _)) ?_
    simp only [Q8.s0, Z2, Zj hlt, h1, ob_s, decide_true, Bool.not_true, cb_f]
    rw [if_pos (by omega), Z0 (by omega), if_neg (by omega), Zd (by omega) (by omega)]
   ·obtain ⟨k', rfl⟩ : ∃ k', k = k' + 1 := ⟨k - 1, by omega⟩
    have hk' : k' < g.length := by omega
    have e : ((k' + 1 : Nat) : Int) - 1 = (k' : Int) := by omega
    by_cases hc : cmpS g[k' + 1].1 g[k'].1 ≤ 0
    ·refine .inl ⟨⟨8, by decide, Z1 ?_⟩, .inr (.inr (.inl fun hr => by
      have h9 := hr k' (k' + 1) (by unfold labs; simpa using hlt) (Nat.lt_succ_self _)
      rw [Z2n hk', Z2n hlt] at h9
      have := Z7o g[k'].1 g[k' + 1].1
      omega))⟩
     simp only [Q8.s0, Z2, Zj hlt, h1, ob_s, decide_true, Bool.not_true, cb_f, e, Zj hk', Z3t]
     rw [if_pos (by omega), Z0 (by omega), if_pos (by omega), Zd (by omega) (by omega), Z0 (by omega), if_pos hc]
    ·refine cont (fun _ => hc) ?_
     simp only [Q8.s0, Z2, Zj hlt, h1, ob_s, decide_true, Bool.not_true, cb_f, e, Zj hk', Z3t]
     rw [if_pos (by omega), Z0 (by omega), if_pos (by omega), Zd (by omega) (by omega), Z0 (by omega), if_neg hc, Zd (by omega) (by omega)]
  ·refine .inl ⟨⟨f, hf, Z1 ?_⟩, .inr (.inl ⟨_, List.getElem_mem hlt, by rw [h1]; exact fun e => hf (Option.some.inj e)⟩)⟩
   simp only [Q8.s0, Z2, Zj hlt, h1, ob_s]
   rw [if_pos (by omega), Z0 (by omega), decide_eq_false hf]
   rfl
theorem Inv.ends {g : List Nd} {dps usr : List (List Int)} (h : Inv g g.length 0 dps usr) : dps = Zz g ∧ usr = Zf g := by
 constructor
 ·apply List.ext_getElem (by rw [h.dl]; simp [Zz])
  intro q h1 h2
  have hq : q < g.length := by rw [← h.dl]; exact h1
  have := h.d q hq
  rw [if_pos hq] at this
  rw [List.getD, List.getElem?_eq_getElem h1, Option.getD_some] at this
  rw [this]
  simp [D, List.getD, h2]
 ·apply List.ext_getElem (by rw [h.ul]; simp [Zf])
  intro q h1 h2
  have hq : q < g.length := by rw [← h.ul]; exact h1
  have := h.u q hq
  rw [List.getD, List.getElem?_eq_getElem h1, Option.getD_some, List.take_zero] at this
  rw [this]
  simp [Zf]
theorem Zdk {g : List Nd} (hs : ∀ n ∈ g, szNd n) : ((∃ f : Int, f ≠ 0 ∧ Q8.f g = some (none, f)) ∧ Bad g) ∨ ((Right g ∧ Q8.f g = some (some (g, (Zz g, Zf g)), 0)) ∧ ∀ n ∈ g, Q1b.f n = some 0) := by
 unfold Q8.f
 simp only [Z2]
 by_cases hl : (1000 : Int) < ((g.length : Nat) : Int)
 ·rw [if_pos hl]; exact .inl ⟨⟨2, by decide, rfl⟩, .inl (by omega)⟩
 ·rw [if_neg hl]
  have h1 := openChk (g := g) (by omega) hs g.length 0 (by omega) (by omega)
  unfold ChkP at h1
  rw [show ((0 : Nat) : Int) = 0 from rfl] at h1
  rcases h1 with ⟨⟨f, h2, h3⟩, hb⟩ | ⟨h2, h3, h4⟩
  ·rw [h3]; exact .inl ⟨⟨f, h2, rfl⟩, hb⟩
  ·rw [h2]
   simp only [ob_s, Z23, Int.toNat_natCast, mix_eq]
   have hlab : Rising (labs g) := Z73 fun k hk => by
    have hk' : k + 1 < g.length := by unfold labs at hk; simpa using hk
    rw [Z2n (by omega), Z2n hk']
    exact h4 k hk' (by omega)
   have hnd : ∀ n ∈ g, n.2.2.1.length ≤ 300 ∧ Rising n.2.2.1 ∧ 0 ≤ n.2.2.2.2.2 ∧ n.2.2.2.2.2 ≤ 1000000 := fun n hn => (h3 n (by simpa using hn)).2
   have c : 0 ≤ ((g.length : Nat) : Int) ∧ ((g.length : Nat) : Int) * 24 ≤ 140737488355328 := by omega
   have inv0 : Inv g 0 0 (List.replicate g.length []) (List.replicate g.length []) := by
    refine ⟨by simp, by simp, fun q hq => ?_, fun k hk => ?_⟩
    ·rw [if_neg (by omega)]
     have : (List.replicate g.length ([] : List Int)).getD q [] = [] := by rw [List.getD, List.getElem?_replicate, if_pos hq]; rfl
     rw [this]
     split <;> rfl
    ·have : (List.replicate g.length ([] : List Int)).getD k [] = [] := by rw [List.getD, List.getElem?_replicate, if_pos hk]; rfl
     rw [this]
     simp [U]
   have h5 := openOut (g := g) (by omega) hlab (fun n hn => ⟨(hnd n hn).1, (hnd n hn).2.1⟩) g.length 0 _ _ (by omega) (by omega) inv0
   rw [show ((0 : Nat) : Int) = 0 from rfl, List.drop_zero] at h5
   simp only [Z0 c]
   rcases h5 with ⟨h5, hb⟩ | ⟨d', u', h5, h6, h7⟩
   ·rw [h5]; simp only [ob_s, Za2, Z40]; exact .inl ⟨⟨9, by decide, rfl⟩, .inr (.inr (.inr hb))⟩
   ·rw [h5]; simp only [ob_s, Z23, Z40]
    obtain ⟨rfl, rfl⟩ := h6.ends
    exact .inr ⟨⟨⟨by omega, hlab, hnd, h7⟩, rfl⟩, fun n hn => (h3 n (by simpa using hn)).1⟩
theorem Z95 {g : List Nd} (hs : ∀ n ∈ g, szNd n) : (∃ f : Int, f ≠ 0 ∧ Q8.f g = some (none, f)) ∨ (Right g ∧ Q8.f g = some (some (g, (Zz g, Zf g)), 0)) :=
 (Zdk hs).imp (·.1) (·.1)
section
variable {g : List Nd}
theorem Right.D_mem (h : Right g) {i : Nat} (hi : i < g.length) {x : Int} (hx : x ∈ D g i) : ∃ d : Nat, x = d ∧ d < g.length := by
 rw [Z83 hi] at hx
 obtain ⟨s, hs, rfl⟩ := List.mem_map.1 hx
 rcases (h.at s).2 with ⟨h1, _⟩ | ⟨d, h1, h2, _⟩
 ·have := h.dep _ (List.getElem_mem hi) s hs; omega
 ·exact ⟨d, h1, h2⟩
def Ed (g : List Nd) (i d : Nat) : Prop := i < g.length ∧ (d : Int) ∈ D g i
theorem Right.ed_lt (h : Right g) {i d : Nat} (e : Ed g i d) : i < g.length ∧ d < g.length := by
 obtain ⟨q, h1, h2⟩ := h.D_mem e.1 e.2
 exact ⟨e.1, by omega⟩
theorem Zev {i k : Nat} {x : Int} : x ∈ U g i k ↔ ∃ q : Nat, x = q ∧ q < i ∧ (k : Int) ∈ D g q := by
 unfold U
 simp only [List.mem_map, List.mem_filter, List.mem_range, decide_eq_true_eq]
 constructor
 ·rintro ⟨q, ⟨h1, h2⟩, rfl⟩; exact ⟨q, rfl, h1, h2⟩
 ·rintro ⟨q, rfl, h1, h2⟩; exact ⟨q, ⟨h1, h2⟩, rfl⟩
end
end Go.Proofs.YtafalbofjmfbnaaDoor
set_option linter.unusedVariables false
set_option linter.unusedSimpArgs false
namespace Go.Proofs.YtafalbofjmfbnaaDoor
open Go Go.Proofs.YtafalbofjmfbnaaDoor.Eng
abbrev ints (L : List Nat) : List Int := L.map fun x : Nat => (x : Int)
theorem Z9d {L : List Nat} {k : Nat} : (k : Int) ∈ ints L ↔ k ∈ L := by
 simp only [ints, List.mem_map]
 constructor
 ·rintro ⟨x, hx, he⟩
  have : x = k := by omega
  exact this ▸ hx
 ·exact fun h => ⟨k, h, rfl⟩
def cnt (l : List Int) (L : List Nat) : Nat := (l.filter fun x => decide (x ∉ ints L)).length
theorem cnt_le (l : List Int) (L : List Nat) : cnt l L ≤ l.length := List.length_filter_le _ _
theorem cnt_pos {l : List Int} {L : List Nat} (h : 0 < cnt l L) : ∃ x, x ∈ l ∧ x ∉ ints L := by
 unfold cnt at h
 obtain ⟨x, hx⟩ := List.exists_mem_of_length_pos h
 rw [List.mem_filter] at hx
 exact ⟨x, hx.1, of_decide_eq_true hx.2⟩
theorem Zin {l : List Int} {L : List Nat} (h : cnt l L = 0) : ∀ x ∈ l, x ∈ ints L := by
 intro x hx
 refine Classical.byContradiction fun hn => ?_
 unfold cnt at h
 have := List.eq_nil_of_length_eq_zero h
 have hm : x ∈ l.filter fun x => decide (x ∉ ints L) := List.mem_filter.2 ⟨hx, decide_eq_true hn⟩
 rw [this] at hm
 cases hm
theorem Zgt {k : Nat} {L : List Nat} (hk : k ∉ L) : ∀ {l : List Int}, l.Nodup → cnt l L = cnt l (L ++ [k]) + (if (k : Int) ∈ l then 1 else 0)
 | [], _ => by simp [cnt]
 | x :: l, hn => by
  rw [List.nodup_cons] at hn
  have ih := Zgt hk hn.2
  have e : ∀ M : List Nat, cnt (x :: l) M = (if x ∈ ints M then 0 else 1) + cnt l M := fun M => by
   unfold cnt
   rw [List.filter_cons]
   by_cases h : x ∈ ints M
   ·simp [h]
   ·simp [h]; omega
  rw [e, e, ih]
  have hin : x ∈ ints (L ++ [k]) ↔ x ∈ ints L ∨ x = (k : Int) := by
   simp only [ints, List.map_append, List.mem_append, List.map_cons, List.map_nil, List.mem_singleton]
  by_cases hx : x = (k : Int)
  ·subst hx
   have h1 : ¬ (k : Int) ∈ ints L := fun h => hk (Z9d.1 h)
   rw [if_neg h1, if_pos (hin.2 (.inr rfl)), if_neg hn.1, if_pos (List.mem_cons_self ..)]
   omega
  ·have h2 : ((k : Int) ∈ x :: l) ↔ (k : Int) ∈ l := by
    rw [List.mem_cons]
    exact ⟨fun h => h.resolve_left (fun e => hx e.symm), .inr⟩
   by_cases h1 : x ∈ ints L
   ·rw [if_pos h1, if_pos (hin.2 (.inl h1))]
    by_cases h3 : (k : Int) ∈ l
    ·rw [if_pos h3, if_pos (h2.2 h3)]; omega
    ·rw [if_neg h3, if_neg (fun h => h3 (h2.1 h))]; omega
   ·rw [if_neg h1, if_neg (fun h => (hin.1 h).elim h1 hx)]
    by_cases h3 : (k : Int) ∈ l
    ·rw [if_pos h3, if_pos (h2.2 h3)]; omega
    ·rw [if_neg h3, if_neg (fun h => h3 (h2.1 h))]; omega
section
variable {g : List Nd}
theorem Right.nodup (h : Right g) {i : Nat} (hi : i < g.length) : (D g i).Nodup := by
 rw [List.Nodup, List.pairwise_iff_getElem]
 intro a b ha hb hab e
 have hbl : b < g[i].2.2.1.length := by rw [Z83 hi, List.length_map] at hb; exact hb
 obtain ⟨d, h1, h2⟩ := h.D_mem hi (List.getElem_mem hb)
 have hp : posI g g[i].2.2.1[b] = (d : Int) := by rw [← h1]; simp [Z83 hi]
 have := Zha h.len h.lab hi (h.nd _ (List.getElem_mem hi)).2.1 hbl hp
 refine this ?_
 rw [← h1, ← e]
 rw [List.mem_iff_getElem]
 exact ⟨a, by simp; omega, by rw [List.getElem_take]⟩
theorem Z92 {α β : Type} {f : α → β} {R : α → α → Prop} {S : β → β → Prop} (hf : ∀ a b, R a b → S (f a) (f b)) {l : List α} (h : l.Pairwise R) : (l.map f).Pairwise S :=
 List.pairwise_map.2 (h.imp fun {a b} => hf a b)
theorem len_le : ∀ {M L : List Nat}, L.Nodup → (∀ x ∈ L, x ∈ M) → L.length ≤ M.length
 | [], L, _, h => by
  cases L with
  | nil => exact Nat.le_refl _
  | cons a l => cases h a (List.mem_cons_self ..)
 | m :: M, L, hn, h => by
  have h1 : (L.erase m).Nodup := hn.erase m
  have h2 := len_le (M := M) h1 (fun x hx => by
   rcases List.mem_cons.1 (h x (List.mem_of_mem_erase hx)) with he | he
   ·subst he
    exact absurd hx (hn.not_mem_erase)
   ·exact he)
  have h3 : L.length ≤ (L.erase m).length + 1 := by
   by_cases hm : m ∈ L
   ·rw [List.length_erase_of_mem hm]; omega
   ·rw [List.erase_of_not_mem hm]; omega
  simp only [List.length_cons]; omega
theorem U_nodup (i k : Nat) : (U g i k).Nodup := by
 unfold U
 exact Z92 (fun a b h e => h (by omega)) (List.nodup_range.filter _)
theorem Zic (left : List Int) (done : List Bool) (out : List Int) (hd : done.length = left.length) (hl : left.length ≤ 1000) : ∀ (n k : Nat), left.length - k = n → k ≤ left.length → (∀ q : Nat, q < k → done.getD q false = true ∨ 0 < left.getD q 0) →
  ∃ c : Nat, Q1.l2 (k : Int) left done out = some ((c : Int), left, done, out) ∧ c ≤ left.length ∧ (∀ q : Nat, q < c → done.getD q false = true ∨ 0 < left.getD q 0) ∧ (c < left.length → done.getD c false = false ∧ ¬ 0 < left.getD c 0) := by
 intro n
 induction n with
 | zero =>
  intro k hn hk hb
  refine ⟨k, Z1 ?_, hk, hb, fun h => by omega⟩
  simp only [Q1.s2, Z2]
  rw [if_neg (by omega)]
 | succ n ih =>
  intro k hn hk hb
  have hlt : k < left.length := by omega
  by_cases hstop : done.getD k false = false ∧ ¬ 0 < left.getD k 0
  ·refine ⟨k, Z1 ?_, hk, hb, fun _ => hstop⟩
   simp only [Q1.s2, Z2, Int.toNat_natCast]
   rw [if_pos (by omega), Z0 (by omega), Z0 (by omega), hstop.1, cb_f, Z0 (by omega), Z0 hlt, if_neg hstop.2]
  ·obtain ⟨c, h1, h2⟩ := ih (k + 1) (by omega) (by omega) (fun q hq => by
    rcases Nat.lt_or_ge q k with h | h
    ·exact hb q h
    ·have : q = k := by omega
     subst this
     cases hc : done.getD q false with
     | true => exact .inl rfl
     | false => exact .inr (Classical.byContradiction fun h => hstop ⟨hc, h⟩))
   refine ⟨c, (Z3 ?_).trans h1, h2⟩
   simp only [Q1.s2, Z2, Int.toNat_natCast]
   rw [if_pos (by omega), Z0 (by omega), Z0 (by omega)]
   cases hc : done.getD k false with
   | true => rw [cb_t, Zd (by omega) (by omega)]; rfl
   | false =>
    rw [cb_f, Z0 (by omega), Z0 hlt, if_pos (Classical.byContradiction fun h => hstop ⟨hc, h⟩), Zd (by omega) (by omega)]; rfl
theorem Zhf (h : Right g) {L : List Nat} {k : Nat} (hk : k < g.length) (hkL : k ∉ L) (done : List Bool) (out o3 : List Int) :
  ∀ (n j : Nat) (left : List Int), (U g g.length k).length - j = n → j ≤ (U g g.length k).length → left.length = g.length → (∀ u : Nat, u < g.length → left.getD u 0 = (cnt (D g u) L : Int) - (if (u : Int) ∈ (U g g.length k).take j then 1 else 0)) →
   ∃ left', Q1.l3 (U g g.length k) ((U g g.length k).length : Int) (j : Int) left done out o3 = some (left', done, out, o3) ∧ left'.length = g.length ∧ ∀ u : Nat, u < g.length → left'.getD u 0 = (cnt (D g u) (L ++ [k]) : Int) := by
 have hU := Ziv g g.length k
 have hgl := h.len
 intro n
 induction n with
 | zero =>
  intro j left hn hj hl hv
  refine ⟨left, Z1 ?_, hl, fun u hu => ?_⟩
  ·simp only [Q1.s3, Z2]
   rw [if_neg (by omega)]
  ·have h1 := hv u hu
   rw [List.take_of_length_le (by omega)] at h1
   have h2 := Zgt hkL (h.nodup hu)
   by_cases hm : (k : Int) ∈ D g u
   ·rw [if_pos hm] at h2
    rw [if_pos (Zev.2 ⟨u, rfl, hu, hm⟩)] at h1
    omega
   ·rw [if_neg hm] at h2
    rw [if_neg (fun hx => by
     obtain ⟨q, h3, h4, h5⟩ := Zev.1 hx
     have : q = u := by omega
     exact hm (this ▸ h5))] at h1
    omega
 | succ n ih =>
  intro j left hn hj hl hv
  have hlt : j < (U g g.length k).length := by omega
  obtain ⟨u, hu1, hu2, hu3⟩ := Zev.1 (List.getElem_mem hlt)
  have hnm : (u : Int) ∉ (U g g.length k).take j := fun hm => by
   obtain ⟨q, hq, he⟩ := List.getElem_of_mem hm
   have hql : q < j := by have := hq; simp at this; omega
   rw [List.getElem_take] at he
   have hnd := U_nodup (g := g) g.length k
   rw [List.Nodup, List.pairwise_iff_getElem] at hnd
   exact hnd q j (by omega) hlt hql (by rw [he, hu1])
  have hv0 := hv u hu2
  rw [if_neg hnm] at hv0
  have hcl := cnt_le (D g u) L
  have hDl : (D g u).length ≤ 300 := by rw [Z83 hu2, List.length_map]; exact (h.nd _ (List.getElem_mem hu2)).1
  obtain ⟨left', h1, h2, h3⟩ := ih (j + 1) (left.set u (left.getD u 0 - 1)) (by omega) (by omega) (by simpa using hl) (fun q hq => by
   rw [getD_set _ _ _ _ _ (by omega), List.take_succ_eq_append_getElem hlt]
   by_cases hqu : q = u
   ·subst hqu
    rw [if_pos rfl, hv0, if_pos (by simp [hu1])]
    omega
   ·rw [if_neg hqu, hv q hq]
    have e : (q : Int) ∈ (U g g.length k).take j ++ [(U g g.length k)[j]] ↔ (q : Int) ∈ (U g g.length k).take j := by
     rw [List.mem_append, List.mem_singleton, hu1]
     exact ⟨fun h => h.resolve_right (fun e => hqu (by omega)), .inl⟩
    by_cases hm : (q : Int) ∈ (U g g.length k).take j
    ·rw [if_pos hm, if_pos (e.2 hm)]
    ·rw [if_neg hm, if_neg (fun h => hm (e.1 h))])
  refine ⟨left', (Z3 ?_).trans h1, h2, h3⟩
  simp only [Q1.s3, Z2, Zj hlt, hu1, Int.toNat_natCast]
  rw [if_pos (by omega), Z0 (by omega), Z0 (by omega), Z0 (by omega), Zd (by omega) (by omega), Z0 (by omega), Z0 (by omega), Zd (by omega) (by omega)]
  rfl
structure Ord (g : List Nd) (L : List Nat) : Prop where
 nodup : L.Nodup
 lt : ∀ x ∈ L, x < g.length
 dep : ∀ p : Nat, ∀ hp : p < L.length, ∀ d : Nat, Ed g L[p] d → d ∈ L.take p
theorem Z3q {n : Nat} {L : List Nat} (hn : L.Nodup) (hl : ∀ x ∈ L, x < n) : L.length ≤ n := by
 have h := len_le (M := List.range n) hn (fun x hx => List.mem_range.2 (hl x hx))
 simpa using h
theorem missing {n : Nat} {L : List Nat} (hl : L.length < n) : ∃ x, x < n ∧ x ∉ L := by
 refine Classical.byContradiction fun hno => ?_
 have this := len_le (M := L) (List.nodup_range (n := n)) (fun x hx => Classical.byContradiction fun h => hno ⟨x, List.mem_range.1 hx, h⟩)
 simp at this
 omega
theorem Zbf {L : List Nat} (h : L.Nodup) {i j : Nat} (hi : i < L.length) (hj : j < L.length) (e : L[i] = L[j]) : i = j := by
 rw [List.Nodup, List.pairwise_iff_getElem] at h
 rcases Nat.lt_trichotomy i j with h1 | h1 | h1
 ·exact absurd e (h i j hi hj h1)
 ·exact h1
 ·exact absurd e.symm (h j i hj hi h1)
theorem Zfo (h : Right g) : ∀ (n : Nat) (L : List Nat) (left : List Int) (done : List Bool), g.length - L.length = n → Ord g L → left.length = g.length → done.length = g.length → (∀ k : Nat, k < g.length → done.getD k false = decide (k ∈ L)) → (∀ u : Nat, u < g.length → left.getD u 0 = (cnt (D g u) L : Int)) →
  (∃ R : List Nat, R ≠ [] ∧ (∀ x ∈ R, ∃ y, y ∈ R ∧ Ed g x y) ∧ Q1.l1 (some (g, (Zz g, Zf g))) left done (ints L) = some (.inl ([], false))) ∨
  ∃ L' left' done', Ord g L' ∧ L'.length = g.length ∧ Q1.l1 (some (g, (Zz g, Zf g))) left done (ints L) = some (.inr (left', done', ints L')) := by
 intro n
 induction n with
 | zero =>
  intro L left done hn ho hl hd hdv hlv
  have := Z3q ho.nodup ho.lt
  refine .inr ⟨L, left, done, ho, by omega, Z1 ?_⟩
  simp only [Q1.s1, Z2, Option.isSome_some, Option.getD_some, List.length_map]
  rw [Z0 trivial, if_neg (by omega)]
 | succ n ih =>
  intro L left done hn ho hl hd hdv hlv
  have hgl := h.len
  have hlen := Z3q ho.nodup ho.lt
  obtain ⟨c, h1, h2, h3, h4⟩ := Zic left done (ints L) (by omega) (by omega) left.length 0 (by omega) (by omega) (fun q hq => by omega)
  rw [show ((0 : Nat) : Int) = 0 from rfl] at h1
  by_cases hc : c = left.length
  ·left
   refine ⟨(List.range g.length).filter fun x => decide (x ∉ L), fun he => ?_, fun x hx => ?_, Z1 ?_⟩
   ·obtain ⟨x, hx1, hx2⟩ := missing (n := g.length) (L := L) (by omega)
    have : x ∈ (List.range g.length).filter fun x => decide (x ∉ L) := List.mem_filter.2 ⟨List.mem_range.2 hx1, decide_eq_true hx2⟩
    rw [he] at this; cases this
   ·rw [List.mem_filter, List.mem_range, decide_eq_true_eq] at hx
    have h5 := h3 x (by omega)
    rw [hdv x hx.1, hlv x hx.1] at h5
    rcases h5 with h5 | h5
    ·exact absurd (of_decide_eq_true h5) hx.2
    ·obtain ⟨y, hy1, hy2⟩ := cnt_pos (l := D g x) (L := L) (by omega)
     obtain ⟨d, rfl, hd'⟩ := h.D_mem hx.1 hy1
     exact ⟨d, List.mem_filter.2 ⟨List.mem_range.2 hd', decide_eq_true (fun hm => hy2 (Z9d.2 hm))⟩, hx.1, hy1⟩
   ·simp only [Q1.s1, Z2, Option.isSome_some, Option.getD_some, List.length_map]
    rw [Z0 trivial, if_pos (by omega), h1, ob_s]
    simp only
    rw [if_pos (by rw [hc])]
  ·have hcl : c < g.length := by omega
   obtain ⟨h5, h6⟩ := h4 (by omega)
   rw [hdv c hcl] at h5
   rw [hlv c hcl] at h6
   have hcL : c ∉ L := of_decide_eq_false h5
   have hUl := Ziv g g.length c
   have hug : (Zf g).length = g.length := by simp [Zf]
   have hur : rd ([] : List Int) (Zf g) (c : Int) = U g g.length c := by
    rw [Zj (by rw [hug]; exact hcl)]
    simp [Zf]
   obtain ⟨left', h7, h8, h9⟩ := Zhf h hcl hcL (done.set c true) (ints L ++ [(c : Int)]) [(c : Int)] _ 0 left rfl (Nat.zero_le _) hl (fun u hu => by rw [hlv u hu, List.take_zero, if_neg (by simp)]; omega)
   rw [show ((0 : Nat) : Int) = 0 from rfl] at h7
   have ho' : Ord g (L ++ [c]) := by
    refine ⟨?_, fun x hx => ?_, fun p hp d he => ?_⟩
    ·rw [List.nodup_append]
     refine ⟨ho.nodup, by simp, fun a ha b hb => ?_⟩
     rw [List.mem_singleton.1 hb]
     exact fun e => hcL (e ▸ ha)
    ·rcases List.mem_append.1 hx with h | h
     ·exact ho.lt x h
     ·rw [List.mem_singleton.1 h]; exact hcl
    ·rcases Nat.lt_or_ge p L.length with hpl | hpl
     ·rw [List.getElem_append_left hpl] at he
      rw [List.take_append_of_le_length (by omega)]
      exact ho.dep p hpl d he
     ·have hpe : p = L.length := by simp at hp; omega
      subst hpe
      rw [List.getElem_append_right (Nat.le_refl _)] at he
      simp only [Nat.sub_self, List.getElem_cons_zero] at he
      rw [List.take_append_of_le_length (Nat.le_refl _), List.take_of_length_le (Nat.le_refl _)]
      have hz : cnt (D g c) L = 0 := by omega
      exact Z9d.1 (Zin hz _ he.2)
   have hint : ints (L ++ [c]) = ints L ++ [(c : Int)] := by simp [ints]
   have hstep : Q1.s1 (some (g, (Zz g, Zf g))) left done (ints L) = some (.inl (left', done.set c true, ints (L ++ [c]))) := by
    simp only [Q1.s1, Z2, Option.isSome_some, Option.getD_some, List.length_map]
    rw [Z0 trivial, if_pos (by omega), h1, ob_s]
    simp only [Int.toNat_natCast]
    rw [if_neg (by omega), Z0 (by omega), Z0 (by omega), Z0 (by simp only [List.length_cons, List.length_nil, List.length_map]; omega), Z0 trivial, Z0 (by rw [hug]; omega), hur, h7, ob_s, hint]
   rcases ih (L ++ [c]) left' (done.set c true) (by simp; omega) ho' h8 (by simpa using hd) (fun q hq => by
    rw [getD_set _ _ _ _ _ (by omega)]
    by_cases hqc : q = c
    ·subst hqc; rw [if_pos rfl]; simp
    ·rw [if_neg hqc, hdv q hq]
     exact decide_eq_decide.2 (by simp [hqc])) h9 with ⟨R, r1, r2, r3⟩ | ⟨L', l', d', r1, r2, r3⟩
   ·exact .inl ⟨R, r1, r2, (Z3 hstep).trans r3⟩
   ·exact .inr ⟨L', l', d', r1, r2, (Z3 hstep).trans r3⟩
theorem Zi7 (h : Right g) : ∀ (n i : Nat) (left : List Int), g.length - i = n → i ≤ g.length → left.length = g.length → (∀ u : Nat, u < g.length → left.getD u 0 = if u < i then ((D g u).length : Int) else 0) →
  ∃ left', Q1.l0 (Zz g) ((Zz g).length : Int) (i : Int) left = some left' ∧ left'.length = g.length ∧ ∀ u : Nat, u < g.length → left'.getD u 0 = ((D g u).length : Int) := by
 have hdl : (Zz g).length = g.length := by simp [Zz]
 have hgl := h.len
 intro n
 induction n with
 | zero =>
  intro i left hn hi hl hv
  refine ⟨left, Z1 ?_, hl, fun u hu => by rw [hv u hu, if_pos (by omega)]⟩
  simp only [Q1.s0, Z2]
  rw [if_neg (by omega)]
 | succ n ih =>
  intro i left hn hi hl hv
  have hlt : i < (Zz g).length := by omega
  have hD : (Zz g)[i] = D g i := by simp [D, List.getD, hlt]
  obtain ⟨l', h1, h2, h3⟩ := ih (i + 1) (left.set i ((D g i).length : Int)) (by omega) (by omega) (by simpa using hl) (fun u hu => by
   rw [getD_set _ _ _ _ _ (by omega)]
   by_cases hui : u = i
   ·subst hui; rw [if_pos rfl, if_pos (by omega)]
   ·rw [if_neg hui, hv u hu]
    by_cases h4 : u < i
    ·rw [if_pos h4, if_pos (by omega)]
    ·rw [if_neg h4, if_neg (by omega)])
  refine ⟨l', (Z3 ?_).trans h1, h2, h3⟩
  simp only [Q1.s0, Z2, Zj hlt, hD, Int.toNat_natCast]
  rw [if_pos (by omega), Z0 (by omega), Z0 (by omega), Z0 (by omega), Zd (by omega) (by omega)]
  rfl
theorem Z59 (h : Right g) : (∃ R : List Nat, R ≠ [] ∧ (∀ x ∈ R, ∃ y, y ∈ R ∧ Ed g x y) ∧ Q1.f (some (g, (Zz g, Zf g))) = some ([], false)) ∨
  ∃ L, Ord g L ∧ L.length = g.length ∧ Q1.f (some (g, (Zz g, Zf g))) = some (ints L, true) := by
 have hgl := h.len
 obtain ⟨left, h1, h2, h3⟩ := Zi7 h g.length 0 (List.replicate g.length 0) (by omega) (by omega) (by simp) (fun u hu => by
  rw [if_neg (by omega), List.getD, List.getElem?_replicate, if_pos hu]; rfl)
 rw [show ((0 : Nat) : Int) = 0 from rfl] at h1
 have h4 := Zfo h g.length [] left (List.replicate g.length false) (by simp) ⟨List.nodup_nil, (fun x hx => by cases hx), fun p hp => absurd hp (Nat.not_lt_zero _)⟩ h2 (by simp) (fun k hk => by
  rw [List.getD, List.getElem?_replicate, if_pos hk]; simp) (fun u hu => by
  rw [h3 u hu]
  have : cnt (D g u) [] = (D g u).length := by simp [cnt, ints]
  rw [this])
 unfold Q1.f
 simp only [Option.isSome_some, Option.getD_some, Int.toNat_natCast]
 rw [Z0 trivial, Z0 (by omega), Z0 trivial, h1, ob_s, Z0 trivial, Z0 (by omega)]
 rcases h4 with ⟨R, r1, r2, r3⟩ | ⟨L', l', d', r1, r2, r3⟩
 ·left
  refine ⟨R, r1, r2, ?_⟩
  have r3' : Q1.l1 (some (g, (Zz g, Zf g))) left (List.replicate g.length false) [] = _ := r3
  rw [r3']; rfl
 ·right
  refine ⟨L', r1, r2, ?_⟩
  have r3' : Q1.l1 (some (g, (Zz g, Zf g))) left (List.replicate g.length false) [] = _ := r3
  rw [r3']; rfl
end
end Go.Proofs.YtafalbofjmfbnaaDoor
set_option linter.unusedVariables false
set_option linter.unusedSimpArgs false
namespace Go.Proofs.YtafalbofjmfbnaaDoor
open Go Go.Proofs.YtafalbofjmfbnaaDoor.Eng
abbrev ND0 : Nd := (ByteArray.empty, (ByteArray.empty, (([] : List ByteArray), (([] : List ByteArray), (([] : List ByteArray), (0 : Int))))))
def labN (g : List Nd) (k : Nat) : ByteArray := (g.getD k ND0).1
theorem Z6t {g : List Nd} {k : Nat} (h : k < g.length) : labN g k = g[k].1 := by simp [labN, List.getD, h]
theorem Z1z (g : List Nd) (dp us : List (List Int)) {L : List Nat} (hl : L.length ≤ 100000) (hg : g.length ≤ 1000) (h : ∀ x ∈ L, x < g.length) :
  Qg.f (some (g, (dp, us))) (ints L) = some (L.map (labN g)) := by
 have go : ∀ (n i : Nat) (o : List ByteArray), L.length - i = n → i ≤ L.length → o.length = i →
   Qg.l0 (some (g, (dp, us))) (ints L) ((ints L).length : Int) (i : Int) o = some (o ++ (L.drop i).map (labN g)) := by
  intro n
  induction n with
  | zero =>
   intro i o hn hi ho
   rw [List.drop_eq_nil_of_le (by omega), List.map_nil, List.append_nil]
   refine Z1 ?_
   simp only [Qg.s0, Z2, List.length_map]
   rw [if_neg (by omega)]
  | succ n ih =>
   intro i o hn hi ho
   have hlt : i < L.length := by omega
   have hx := h _ (List.getElem_mem hlt)
   have hil : i < (ints L).length := by simpa using hlt
   have e : rd (0 : Int) (ints L) (i : Int) = (L[i] : Int) := by rw [Zj hil]; simp [ints]
   have h2 := ih (i + 1) (o ++ [labN g L[i]]) (by omega) (by omega) (by simp [ho])
   rw [List.append_assoc, List.singleton_append, ← List.map_cons, ← List.drop_eq_getElem_cons hlt] at h2
   refine (Z3 ?_).trans h2
   simp only [Qg.s0, Z2, e, Option.isSome_some, Option.getD_some]
   rw [if_pos (by omega), Z0 (by omega), Z0 trivial, Z0 (by omega), Z0 (by simp only [List.length_cons, List.length_nil]; omega), Zd (by omega) (by omega), Zj hx, Z6t hx]
   rfl
 unfold Qg.f
 have := go L.length 0 [] (by omega) (by omega) rfl
 rw [List.drop_zero, List.nil_append] at this
 rw [show (0 : Int) = ((0 : Nat) : Int) from rfl]
 simp only [this, ob_s]
theorem Ord.all {g : List Nd} {L : List Nat} (h : Ord g L) (hl : L.length = g.length) {i : Nat} (hi : i < g.length) : i ∈ L := by
 refine Classical.byContradiction fun hn => ?_
 have := Z3q (n := g.length) (L := i :: L) (List.nodup_cons.2 ⟨hn, h.nodup⟩) (fun x hx => by
  rcases List.mem_cons.1 hx with h' | h'
  ·rw [h']; exact hi
  ·exact h.lt x h')
 simp at this
 omega
theorem Z5i {β : Type} {c : Prop} [h : Decidable c] {a : Option β} : ck c a = if c then a else none := by
 unfold ck
 by_cases hc : c <;> simp [hc]
local instance (x : Int) : Decidable (InR x) := inferInstanceAs (Decidable (_ ∧ _))
def Q2i : ByteArray := ⟨#[97]⟩
def Q2q : ByteArray := ⟨#[58, 97]⟩
def one : List Nd := [(Q26, (Q2j, ([], ([], ([], 0)))))]
theorem split_one : Z1x Q2i = [Q2i] := by
 have h : Q1g.f Q2i Q2g = some [Q2i] := by
  have l : Ql.l0 Q2g 0 (1 - 1) Q2i 0 (List.replicate 1 ByteArray.empty) = some (Q2i, 0, List.replicate 1 ByteArray.empty) := Z3a (n := 1) rfl
  have c : Q2a.f Q2i Q2g = some 0 := by
   show ck _ _ = _
   rw [Z0 (by rfl)]; rfl
  unfold Q1g.f Ql.f
  simp only [c, ob_s, Z5i]
  have e : ((min (0 + 1) (((Q2i.size : Nat) : Int) + 1) : Int)) = 1 := rfl
  simp only [e]
  have e1 : Int.toNat 1 = 1 := rfl
  simp only [e1, l, ob_s, Z5i]
  rfl
 unfold Z1x
 rw [h]; rfl
theorem whole_one : Q1a.f Q26 = some true := by
 have c1 : cutP Q26 Q27 = (Q2q, true) := by rfl
 have c2 : Za0 Q2q = (bs_, Q2i, true) := by rfl
 have c3 : labF (bs_, Q2i) = 0 := by
  unfold labF Z1q
  rw [split_one]
  rfl
 have r : Q1d.f Q26 bs_ = some ((bs_, Q2i), 0) := by
  unfold Q1d.f
  simp only [decide_true, Bool.not_true, cb_f, Z3y, ob_s, c1, cb_t]
  rw [Zj7 (by decide), c2]
  simp only [ob_s, Bool.not_true, cb_f, Z5j, c3]
  rfl
 unfold Q1a.f
 rw [r, ob_s]
 have w : Q1n.f (bs_, Q2i) = some Q26 := by
  unfold Q1n.f
  have e1 : Q27.size = 2 := rfl
  have e2 : Q2f.size = 1 := rfl
  have e3 : bs_.size = 0 := rfl
  have e4 : Q2i.size = 1 := rfl
  simp only [ByteArray.size_append, e1, e2, e3, e4]
  rw [Z0 (by omega), Z0 (by omega), Z0 (by omega)]
  exact congrArg some (by decide)
 rw [w, ob_s]
 rfl
theorem name_one : Qt.f Q2j = some true := by
 have l : Qt.l0 Q2j 1 0 = some (.inr ()) := by
  refine (Z3 (x' := 1) ?_).trans (Z1 ?_)
  ·simp only [Qt.s0, Z5i]; rfl
  ·simp only [Qt.s0, Z5i]; rfl
 obtain ⟨r, h1, h2⟩ := contS [Q2e, Q2l, Q2n, Q2o, Q2h, Q2k, Q2c, Q2b] (by decide) Q2j
 have hr : r = -1 := by
  rcases h2 with ⟨h, _⟩ | ⟨k, _, hk, he, _⟩
  ·exact h
  ·exfalso
   have hm : Q2j ∈ _ := he ▸ List.getElem_mem hk
   simp only [List.mem_cons, List.not_mem_nil, or_false] at hm
   exact absurd hm (by decide)
 have hz : ((Q2j.size : Nat) : Int) = 1 := rfl
 unfold Qt.f
 simp only [hz, Z5i, l, Q1w.f, Qv.f, h1, hr, ob_s]
 rfl
theorem node_one : Q1b.f (Q26, (Q2j, ([], ([], ([], 0))))) = some 0 := by
 have a1 : Qd.f [] () = some 0 := by
  have l : Qd.l0 [] [] 0 0 = some (.inr ()) := Z3a (n := 1) rfl
  show ob (Qd.l0 [] [] 0 0) _ = _
  rw [l]; rfl
 have a2 : Qi.f [] () = some 0 := by
  have l : Qi.l0 [] [] 0 0 = some (.inr ()) := Z3a (n := 1) rfl
  show ob (Qi.l0 [] [] 0 0) _ = _
  rw [l]; rfl
 have a3 : Qh.f [] () = some 0 := by
  have l : Qh.l0 [] [] 0 0 = some (.inr ()) := Z3a (n := 1) rfl
  show ob (Qh.l0 [] [] 0 0) _ = _
  rw [l]; rfl
 unfold Q1b.f
 simp only [whole_one, name_one, a1, a2, a3, ob_s]
 rfl
theorem open_one : Right one ∧ Q8.f one = some (some (one, (Zz one, Zf one)), 0) := by
 have l0 : Q8.l0 one one 1 0 = some (.inr ()) := by
  refine (Z3 (x' := 1) ?_).trans (Z1 ?_)
  ·have e : rd ND0 one 0 = (Q26, (Q2j, ([], ([], ([], 0))))) := rfl
   simp only [Q8.s0, e, node_one, ob_s, Z5i]
   rfl
  ·rfl
 have l2 : ∀ (a b : List (List Int)) (c : List Nd), Q8.l2 one 0 [] 0 0 a b c = some (.inr (a, b, c)) := fun a b c => Z1 rfl
 have l1 : Q8.l1 one one 1 0 [[]] [[]] one = some (.inr ([[]], ([[]], one))) := by
  refine (Z3 (x' := (1, ([[]], ([[]], one)))) ?_).trans (Z1 ?_)
  ·have e : rd ND0 one 0 = (Q26, (Q2j, ([], ([], ([], 0))))) := rfl
   have e1 : (([] : List ByteArray).length : Int) = 0 := rfl
   simp only [Q8.s1, e, e1, l2, ob_s, Z5i, Z23]
   rfl
  ·rfl
 have h : Q8.f one = some (some (one, ([[]], [[]])), 0) := by
  have e : ((one.length : Nat) : Int) = 1 := rfl
  have e1 : List.replicate (Int.toNat 1) ([] : List Int) = [[]] := rfl
  unfold Q8.f
  simp only [e, e1, l0, l1, ob_s, Z23, Z5i, mix_eq]
  rfl
 have hs : ∀ n ∈ one, szNd n := fun n hn => by
  rw [List.mem_singleton.1 hn]
  exact ⟨by decide, fun x hx => by (cases hx), fun x hx => by (cases hx), fun x hx => by (cases hx)⟩
 rcases Z95 hs with ⟨f, h1, h2⟩ | h2
 ·rw [h2] at h
  cases h
 ·exact h2
theorem awake4 : Q25.f = some true := by
 obtain ⟨hr, ho⟩ := open_one
 have h : Q1m.f one = some ([Q26], 0) := by
  unfold Q1m.f Q14.f
  rw [ho]
  simp only [ob_s, Z15, Z2, if_true]
  rcases Z59 hr with ⟨R, r1, r2, r3⟩ | ⟨L, r1, r2, r3⟩
  ·exfalso
   obtain ⟨x, hx⟩ := List.exists_mem_of_ne_nil R r1
   obtain ⟨y, hy, he⟩ := r2 x hx
   have hx0 : x = 0 := by have := he.1; simp [one] at this; exact this
   subst hx0
   have := he.2
   rw [Z83 (by decide)] at this
   cases this
  ·rw [r3]
   have hl : ([0] : List Nat) = L := by
    match L, r1, r2 with
    | [x], r1, _ =>
     have := r1.lt x (List.mem_cons_self ..)
     have : x = 0 := by simp [one] at this; exact this
     rw [this]
   subst hl
   simp only [ob_s, cb_t, if_true, Z1z one _ _ (L := [0]) (by decide) (by decide) r1.lt]
   rfl
 unfold Q25.f
 show ob (Q1m.f one) _ = _
 rw [h]
 simp only [ob_s, Z5i]
 rfl
end Go.Proofs.YtafalbofjmfbnaaDoor
set_option linter.unusedVariables false
set_option linter.unusedSimpArgs false
namespace Go.Proofs.YtafalbofjmfbnaaDoor
open Go Go.Proofs.YtafalbofjmfbnaaDoor.Eng
noncomputable abbrev net (g : List Nd) : Option (List Nd × (List (List Int) × List (List Int))) := some (g, (Zz g, Zf g))
section
variable {g : List Nd}
theorem Zd2 {k : Nat} (hk : k < g.length) : rd ([] : List Int) (Zz g) (k : Int) = D g k := by
 have hl : (Zz g).length = g.length := by simp [Zz]
 rw [Zj (by omega : k < (Zz g).length)]
 simp [D, List.getD, hl, hk]
theorem d_rd {d : List Int} {k : Nat} (hk : k < d.length) : rd (0 : Int) d (k : Int) = d.getD k 0 := by
 rw [Zj hk]; simp [List.getD, hk]
theorem D_len (h : Right g) {k : Nat} (hk : k < g.length) : (D g k).length ≤ 300 := by
 rw [Z83 hk, List.length_map]
 exact (h.nd _ (List.getElem_mem hk)).1
end
end Go.Proofs.YtafalbofjmfbnaaDoor
set_option linter.unusedVariables false
set_option linter.unusedSimpArgs false
namespace Go.Proofs.YtafalbofjmfbnaaDoor
open Go Go.Proofs.YtafalbofjmfbnaaDoor.Eng
def unr : List Int → Nat
 | [] => 0
 | x :: l => (if x < 0 then 1 else 0) + unr l
theorem unr_le : ∀ l : List Int, unr l ≤ l.length
 | [] => Nat.le_refl _
 | x :: l => by have := unr_le l; simp only [unr, List.length_cons]; split <;> omega
theorem unr_set : ∀ (l : List Int) (k : Nat) (v : Int), k < l.length → l.getD k 0 < 0 → 0 ≤ v → unr (l.set k v) + 1 = unr l
 | [], k, v, h, _, _ => absurd h (Nat.not_lt_zero _)
 | x :: l, 0, v, _, h1, h2 => by
  have h1' : x < 0 := by simpa using h1
  simp only [List.set_cons_zero, unr]
  rw [if_pos h1', if_neg (by omega)]
  omega
 | x :: l, k + 1, v, h, h1, h2 => by
  have := unr_set l k v (by simpa using h) (by simpa using h1) h2
  simp only [List.set_cons_succ, unr]
  omega
def Ad (adj : List (List Int)) (k y : Nat) : Prop := k < adj.length ∧ (y : Int) ∈ adj.getD k []
structure Bf (adj : List (List Int)) (S : List Nat) (d : List Int) (q : List Nat) (pend : Nat → Prop) : Prop where
 len : d.length = adj.length
 low : ∀ k, k < adj.length → d.getD k 0 = -1 ∨ 0 ≤ d.getD k 0
 src : ∀ k, k < adj.length → (d.getD k 0 = 0 ↔ k ∈ S)
 back : ∀ y, y < adj.length → 0 < d.getD y 0 → ∃ k, k < adj.length ∧ Ad adj k y ∧ d.getD k 0 = d.getD y 0 - 1
 qlt : ∀ x ∈ q, x < adj.length ∧ 0 ≤ d.getD x 0
 cnt : unr d + q.length ≤ adj.length
 top : ∀ k, k < adj.length → d.getD k 0 + (unr d : Int) ≤ (adj.length : Int)
 sorted : q.Pairwise fun a b => d.getD a 0 ≤ d.getD b 0
 step : ∀ k y, k < adj.length → Ad adj k y → 0 ≤ d.getD k 0 → k ∉ q → ¬ pend k → 0 ≤ d.getD y 0 ∧ d.getD y 0 ≤ d.getD k 0 + 1
section
variable {adj : List (List Int)} {S : List Nat}
theorem Zi3 (hn : adj.length ≤ 1000) (hA : ∀ k y, k < adj.length → y ∈ adj.getD k [] → ∃ u : Nat, y = u ∧ u < adj.length) {h : Nat} (hh : h < adj.length) (hl : (adj.getD h []).length ≤ 1000000) :
  ∀ (n j : Nat) (d : List Int) (q : List Nat), (adj.getD h []).length - j = n → j ≤ (adj.getD h []).length → Bf adj S d q (· = h) → 0 ≤ d.getD h 0 → (∀ x ∈ q, d.getD h 0 ≤ d.getD x 0) → (∀ y, y < adj.length → d.getD y 0 ≤ d.getD h 0 + 1) →
   (∀ u : Nat, (u : Int) ∈ (adj.getD h []).take j → 0 ≤ d.getD u 0) →
   ∃ d' q', Q2.l3 (h : Int) (adj.getD h []) ((adj.getD h []).length : Int) (j : Int) d (ints q) = some (d', ints q') ∧ Bf adj S d' q' (fun _ => False) ∧ (∀ x ∈ q', ∀ y, y < adj.length → d'.getD y 0 ≤ d'.getD x 0 + 1) ∧
    2 * unr d' + q'.length ≤ 2 * unr d + q.length := by
 intro n
 induction n with
 | zero =>
  intro j d q hj hjl hb h0 hq hy ht
  refine ⟨d, q, Z1 ?_, ⟨hb.len, hb.low, hb.src, hb.back, hb.qlt, hb.cnt, hb.top, hb.sorted, fun k y hk he hd hkq _ => ?_⟩, fun x hx y hyl => ?_, Nat.le_refl _⟩
  ·simp only [Q2.s3, Z2]
   rw [if_neg (by omega)]
  ·by_cases e : k = h
   ·subst e
    rw [List.take_of_length_le (by omega)] at ht
    obtain ⟨u, hu1, hu2⟩ := hA k y hk he.2
    have : y = u := by omega
    exact ⟨ht y he.2, hy y (by omega)⟩
   ·exact hb.step k y hk he hd hkq e
  ·have h1 := hq x hx
   have h2 := hy y hyl
   omega
 | succ n ih =>
  intro j d q hj hjl hb h0 hq hy ht
  have hlt : j < (adj.getD h []).length := by omega
  have hm : (adj.getD h [])[j] ∈ adj.getD h [] := List.getElem_mem hlt
  obtain ⟨u, hu1, hu2⟩ := hA h _ hh hm
  have hE : Ad adj h u := ⟨hh, hu1 ▸ hm⟩
  have hlen := hb.len
  have hul := unr_le d
  have hcnt := hb.cnt
  have htk : ∀ w : Nat, (w : Int) ∈ (adj.getD h []).take (j + 1) → w = u ∨ (w : Int) ∈ (adj.getD h []).take j := fun w hw => by
   rw [List.take_succ_eq_append_getElem hlt, List.mem_append, List.mem_singleton, hu1] at hw
   rcases hw with hw | hw
   ·exact .inr hw
   ·exact .inl (by omega)
  by_cases hneg : d.getD u 0 < 0
  ·have huh : u ≠ h := fun e => by rw [e] at hneg; omega
   have huq : u ∉ q := fun hm => by have := (hb.qlt u hm).2; omega
   have hg : ∀ w, (d.set u (d.getD h 0 + 1)).getD w 0 = if w = u then d.getD h 0 + 1 else d.getD w 0 := fun w => getD_set _ _ _ _ _ (by omega)
   have hgh : (d.set u (d.getD h 0 + 1)).getD h 0 = d.getD h 0 := by rw [hg, if_neg (fun e => huh e.symm)]
   have hun := unr_set d u (d.getD h 0 + 1) (by omega) hneg (by omega)
   have hgr : ∀ w, 0 ≤ d.getD w 0 → (d.set u (d.getD h 0 + 1)).getD w 0 = d.getD w 0 := fun w hw => by
    rw [hg, if_neg (fun e => by rw [e] at hw; omega)]
   obtain ⟨d', q', g1, g2, g3, g4⟩ := ih (j + 1) (d.set u (d.getD h 0 + 1)) (q ++ [u]) (by omega) (by omega)
    ⟨by
     simpa using hlen, fun k hk => by
     rw [hg]; split
     ·exact .inr (by omega)
     ·exact hb.low k hk,
     fun k hk => by
      rw [hg]; split
      ·rename_i e
       constructor
       ·intro h; omega
       ·intro hk'
        have := (hb.src k hk).2 hk'
        rw [e] at this; omega
      ·exact hb.src k hk,
     fun y hyl hp => by
      rw [hg] at hp ⊢
      split at hp
      ·rename_i e
       rw [if_pos e]
       exact ⟨h, hh, e ▸ hE, by rw [hgh]; omega⟩
      ·rename_i e
       rw [if_neg e]
       obtain ⟨k, k1, k2, k3⟩ := hb.back y hyl hp
       exact ⟨k, k1, k2, by rw [hgr k (by omega)]; exact k3⟩,
     fun x hx => by
      rcases List.mem_append.1 hx with hx | hx
      ·have := hb.qlt x hx
       exact ⟨this.1, by rw [hgr x this.2]; exact this.2⟩
      ·rw [List.mem_singleton.1 hx]
       exact ⟨hu2, by rw [hg, if_pos rfl]; omega⟩,
     by simp only [List.length_append, List.length_cons, List.length_nil]; omega,
     fun k hk => by
      have h1 := hb.top k hk
      have h2 := hb.top h hh
      rw [hg]; split <;> omega,
     by
      rw [List.pairwise_append]
      refine ⟨hb.sorted.imp_of_mem fun {a b} ha hb' hab => ?_, List.pairwise_singleton _ _, fun a ha b hb' => ?_⟩
      ·rw [hgr a (hb.qlt a ha).2, hgr b (hb.qlt b hb').2]; exact hab
      ·rw [List.mem_singleton.1 hb', hgr a (hb.qlt a ha).2, hg u, if_pos rfl]
       exact hy a (hb.qlt a ha).1,
     fun k y hk he hd hkq hp => by
      have hku : k ≠ u := fun e => hkq (List.mem_append.2 (.inr (List.mem_singleton.2 e)))
      rw [hg, if_neg hku] at hd
      have := hb.step k y hk he hd (fun hm => hkq (List.mem_append.2 (.inl hm))) hp
      rw [hgr y this.1, hgr k hd]
      exact this⟩
    (by rw [hgh]; exact h0)
    (fun x hx => by
     rw [hgh]
     rcases List.mem_append.1 hx with hx | hx
     ·rw [hgr x (hb.qlt x hx).2]; exact hq x hx
     ·rw [List.mem_singleton.1 hx, hg, if_pos rfl]; omega)
    (fun y hyl => by
     rw [hgh, hg]
     split
     ·omega
     ·exact hy y hyl)
    (fun w hw => by
     rcases htk w hw with e | hw
     ·rw [hg, if_pos e]; omega
     ·rw [hgr w (ht w hw)]; exact ht w hw)
   refine ⟨d', q', (Z3 ?_).trans g1, g2, g3, by simp only [List.length_append, List.length_cons, List.length_nil] at g4; omega⟩
   have hdl := unr_le d
   have hhy := hy h hh
   have hdh : d.getD h 0 ≤ 1000 := by have := hb.top h hh; omega
   have hint : ints (q ++ [u]) = ints q ++ [(u : Int)] := by simp [ints]
   simp only [Q2.s3, Z2, Zj hlt, hu1, Int.toNat_natCast]
   rw [if_pos (by omega), Z0 (by omega), Z0 (by omega), Z0 (by omega), if_pos hneg, Z0 (by omega), Z0 (by omega), Zd (by omega) (by omega), Z0 (by omega), Z0 (by omega), Z0 (by simp only [List.length_map, List.length_cons, List.length_nil]; omega), Zd (by omega) (by omega), hint]
   rfl
  ·obtain ⟨d', q', g1, g2, g3, g4⟩ := ih (j + 1) d q (by omega) (by omega) hb h0 hq hy (fun w hw => by
    rcases htk w hw with e | hw
    ·rw [e]; omega
    ·exact ht w hw)
   refine ⟨d', q', (Z3 ?_).trans g1, g2, g3, g4⟩
   simp only [Q2.s3, Z2, Zj hlt, hu1, Int.toNat_natCast]
   rw [if_pos (by omega), Z0 (by omega), Z0 (by omega), Z0 (by omega), if_neg hneg, Zd (by omega) (by omega)]
   rfl
theorem outLoop (hn : adj.length ≤ 1000) (hA : ∀ k y, k < adj.length → y ∈ adj.getD k [] → ∃ u : Nat, y = u ∧ u < adj.length) (hL : ∀ k, k < adj.length → (adj.getD k []).length ≤ 1000000) :
  ∀ (n : Nat) (d : List Int) (q : List Nat), 2 * unr d + q.length ≤ n → Bf adj S d q (fun _ => False) → (∀ x ∈ q, ∀ y, y < adj.length → d.getD y 0 ≤ d.getD x 0 + 1) →
   ∃ d' o, Q2.l2 adj d (ints q) = some (d', o) ∧ Bf adj S d' [] (fun _ => False) := by
 intro n
 induction n with
 | zero =>
  intro d q hq hb hy
  have hq0 : q = [] := List.eq_nil_of_length_eq_zero (by omega)
  subst hq0
  refine ⟨d, [], Z1 ?_, hb⟩
  rfl
 | succ n ih =>
  intro d q hq hb hy
  cases q with
  | nil => exact ⟨d, [], Z1 (by rfl), hb⟩
  | cons h q =>
   obtain ⟨hh, h0⟩ := hb.qlt h (List.mem_cons_self ..)
   have hs := List.pairwise_cons.1 hb.sorted
   obtain ⟨d', q', g1, g2, g3, g4⟩ := Zi3 hn hA hh (hL h hh) _ 0 d q rfl (Nat.zero_le _)
    ⟨hb.len, hb.low, hb.src, hb.back, fun x hx => hb.qlt x (List.mem_cons_of_mem _ hx), by have := hb.cnt; simp only [List.length_cons] at this; omega, hb.top, hs.2,
     fun k y hk he hd hkq hp => hb.step k y hk he hd (fun hm => by rcases List.mem_cons.1 hm with e | hm; (· exact hp e); (· exact hkq hm)) (fun h => h)⟩
    h0 hs.1 (hy h (List.mem_cons_self ..)) (fun u hu => by simp at hu)
   simp only [List.length_cons] at hq
   obtain ⟨d2, o, k1, k2⟩ := ih d' q' (by omega) g2 g3
   refine ⟨d2, o, (Z3 (x' := (d', ints q')) ?_).trans k1, k2⟩
   rw [show ((0 : Nat) : Int) = 0 from rfl] at g1
   have hql := hb.cnt
   simp only [List.length_cons] at hql
   have e0 : List.getD (ints (h :: q)) (Int.toNat 0) 0 = (h : Int) := rfl
   have e1 : List.drop (Int.toNat 1) (ints (h :: q)) = ints q := rfl
   have er : rd ([] : List Int) adj (h : Int) = adj.getD h [] := by rw [Zj hh]; simp [List.getD, hh]
   have el : (ints (h :: q)).length = q.length + 1 := by simp
   simp only [Q2.s2, Z2, e0, e1, er, g1, el]
   rw [if_pos (by omega), Z0 (by omega), Z0 (by rw [show Int.toNat 0 = 0 from rfl]; omega), Z0 (by omega), Z0 (by omega), Z0 (by rw [show Int.toNat 1 = 1 from rfl]; omega), ob_s]
theorem Zid {m : Nat} (hm : m ≤ 1000) : ∀ (n i : Nat) (d : List Int), m - i = n → i ≤ m → d.length = m → (∀ k, k < i → d.getD k 0 = -1) →
  ∃ d', Q2.l0 (m : Int) (i : Int) d = some d' ∧ d'.length = m ∧ ∀ k, k < m → d'.getD k 0 = -1 := by
 intro n
 induction n with
 | zero =>
  intro i d hi him hd hv
  refine ⟨d, Z1 ?_, hd, fun k hk => hv k (by omega)⟩
  simp only [Q2.s0, Z2]
  rw [if_neg (by omega)]
 | succ n ih =>
  intro i d hi him hd hv
  obtain ⟨d', h1, h2, h3⟩ := ih (i + 1) (d.set i (-1)) (by omega) (by omega) (by simpa using hd) (fun k hk => by
   rw [getD_set _ _ _ _ _ (by omega)]
   split
   ·rfl
   ·exact hv k (by omega))
  refine ⟨d', (Z3 ?_).trans h1, h2, h3⟩
  simp only [Q2.s0, Z2, Int.toNat_natCast]
  rw [if_pos (by omega), Z0 (by omega), Z0 (by omega), Zd (by omega) (by omega)]
  rfl
theorem srcLoop (hn : adj.length ≤ 1000) (hS : ∀ s ∈ S, s < adj.length) (hSl : S.length ≤ 1000000) : ∀ (n i : Nat) (d : List Int) (q : List Nat), S.length - i = n → i ≤ S.length → d.length = adj.length →
  (∀ k, k < adj.length → d.getD k 0 = if k ∈ S.take i then 0 else -1) → (∀ k, k ∈ q ↔ k ∈ S.take i) → unr d + q.length ≤ adj.length →
   ∃ d' q', Q2.l1 (ints S) ((ints S).length : Int) (i : Int) d (ints q) = some (d', ints q') ∧ d'.length = adj.length ∧ (∀ k, k < adj.length → d'.getD k 0 = if k ∈ S then 0 else -1) ∧ (∀ k, k ∈ q' ↔ k ∈ S) ∧ unr d' + q'.length ≤ adj.length := by
 intro n
 induction n with
 | zero =>
  intro i d q hi hil hd hv hq hc
  rw [List.take_of_length_le (by omega)] at hv hq
  refine ⟨d, q, Z1 ?_, hd, hv, hq, hc⟩
  simp only [Q2.s1, Z2, List.length_map]
  rw [if_neg (by omega)]
 | succ n ih =>
  intro i d q hi hil hd hv hq hc
  have hlt : i < S.length := by omega
  have hs := hS _ (List.getElem_mem hlt)
  have hil' : i < (ints S).length := by simpa using hlt
  have e : rd (0 : Int) (ints S) (i : Int) = (S[i] : Int) := by rw [Zj hil']; simp [ints]
  have ht : ∀ k, k ∈ S.take (i + 1) ↔ k ∈ S.take i ∨ k = S[i] := fun k => by
   rw [List.take_succ_eq_append_getElem hlt, List.mem_append, List.mem_singleton]
  by_cases hneg : d.getD S[i] 0 < 0
  ·have hni : S[i] ∉ S.take i := fun hm => by rw [hv _ hs, if_pos hm] at hneg; omega
   have hun := unr_set d S[i] 0 (by omega) hneg (by omega)
   have hint : ints (q ++ [S[i]]) = ints q ++ [(S[i] : Int)] := by simp [ints]
   obtain ⟨d', q', h1, h2⟩ := ih (i + 1) (d.set S[i] 0) (q ++ [S[i]]) (by omega) (by omega) (by simpa using hd) (fun k hk => by
    rw [getD_set _ _ _ _ _ (by omega)]
    by_cases hks : k = S[i]
    ·rw [if_pos hks, if_pos ((ht k).2 (.inr hks))]
    ·rw [if_neg hks, hv k hk]
     by_cases hk2 : k ∈ S.take i
     ·rw [if_pos hk2, if_pos ((ht k).2 (.inl hk2))]
     ·rw [if_neg hk2, if_neg (fun h => ((ht k).1 h).elim hk2 hks)]) (fun k => by
    rw [ht, List.mem_append, List.mem_singleton, hq]) (by simp only [List.length_append, List.length_cons, List.length_nil]; omega)
   refine ⟨d', q', (Z3 ?_).trans h1, h2⟩
   simp only [Q2.s1, Z2, e, Int.toNat_natCast]
   rw [if_pos (by omega), Z0 (by omega), Z0 (by omega), Z0 (by omega), if_pos hneg, Z0 (by omega), Z0 (by omega), Z0 (by simp only [List.length_map, List.length_cons, List.length_nil]; omega), Zd (by omega) (by omega), hint]
   rfl
  ·have hyi : S[i] ∈ S.take i := Classical.byContradiction fun hm => by rw [hv _ hs, if_neg hm] at hneg; omega
   obtain ⟨d', q', h1, h2⟩ := ih (i + 1) d q (by omega) (by omega) hd (fun k hk => by
    rw [hv k hk]
    by_cases hk2 : k ∈ S.take i
    ·rw [if_pos hk2, if_pos ((ht k).2 (.inl hk2))]
    ·rw [if_neg hk2, if_neg (fun h => ((ht k).1 h).elim hk2 (fun e => hk2 (e ▸ hyi)))]) (fun k => by
    rw [ht, hq]
    exact ⟨.inl, fun h => h.elim (fun h => h) (fun e => e ▸ hyi)⟩) hc
   refine ⟨d', q', (Z3 ?_).trans h1, h2⟩
   simp only [Q2.s1, Z2, e, Int.toNat_natCast]
   rw [if_pos (by omega), Z0 (by omega), Z0 (by omega), Z0 (by omega), if_neg hneg, Zd (by omega) (by omega)]
   rfl
theorem Zhk (hn : adj.length ≤ 1000) (hA : ∀ k y, k < adj.length → y ∈ adj.getD k [] → ∃ u : Nat, y = u ∧ u < adj.length) (hL : ∀ k, k < adj.length → (adj.getD k []).length ≤ 1000000) (hS : ∀ s ∈ S, s < adj.length) (hSl : S.length ≤ 1000000) :
  ∃ d, Q2.f adj (ints S) = some d ∧ d.length = adj.length ∧ Far adj.length (Ad adj) (· ∈ S) (fun k => d.getD k 0) ∧ ∀ k, k < adj.length → d.getD k 0 ≤ (adj.length : Int) := by
 obtain ⟨d0, a1, a2, a3⟩ := Zid hn adj.length 0 (List.replicate adj.length 0) (by omega) (by omega) (by simp) (fun k hk => absurd hk (Nat.not_lt_zero _))
 have hu0 := unr_le d0
 obtain ⟨d1, q1, b1, b2, b3, b4, b5⟩ := srcLoop (S := S) hn hS hSl S.length 0 d0 [] (by omega) (by omega) a2 (fun k hk => by rw [a3 k hk]; simp) (fun k => by simp) (by simp; omega)
 have hu1 := unr_le d1
 have hb : Bf adj S d1 q1 (fun _ => False) := by
  refine ⟨b2, fun k hk => ?_, fun k hk => ?_, fun y hy hp => ?_, fun x hx => ?_, b5, fun k hk => ?_, ?_, fun k y hk he hd hkq _ => ?_⟩
  ·rw [b3 k hk]; split <;> omega
  ·rw [b3 k hk]; split
   ·exact ⟨fun _ => by assumption, fun _ => rfl⟩
   ·exact ⟨fun h => by omega, fun h => by contradiction⟩
  ·rw [b3 y hy] at hp; split at hp <;> omega
  ·have hxs := (b4 x).1 hx
   exact ⟨hS x hxs, by rw [b3 x (hS x hxs), if_pos hxs]; omega⟩
  ·rw [b3 k hk]; split <;> omega
  ·rw [List.pairwise_iff_forall_sublist]
   intro a b hab
   have ha := (b4 a).1 (hab.subset (by simp))
   have hb' := (b4 b).1 (hab.subset (by simp))
   rw [b3 a (hS a ha), b3 b (hS b hb'), if_pos ha, if_pos hb']
   omega
  ·rw [b3 k hk] at hd
   split at hd
   ·exact absurd ((b4 k).2 (by assumption)) hkq
   ·omega
 obtain ⟨d2, o, c1, c2⟩ := outLoop hn hA hL _ d1 q1 (Nat.le_refl _) hb (fun x hx y hy => by
  have hxs := (b4 x).1 hx
  rw [b3 y hy, b3 x (hS x hxs), if_pos hxs]
  split <;> omega)
 refine ⟨d2, ?_, c2.len, ⟨c2.low, c2.src, fun k y hk he hd => c2.step k y hk he hd (by simp) (fun h => h), c2.back⟩, fun k hk => by have := c2.top k hk; omega⟩
 unfold Q2.f
 rw [show ((0 : Nat) : Int) = 0 from rfl] at a1 b1
 have b1' : Q2.l1 (ints S) ((ints S).length : Int) 0 d0 [] = some (d1, ints q1) := b1
 simp only [Int.toNat_natCast, List.length_replicate, a1, ob_s, b1', c1]
 rw [Z0 (by omega)]
end
end Go.Proofs.YtafalbofjmfbnaaDoor
set_option linter.unusedVariables false
set_option linter.unusedSimpArgs false
namespace Go.Proofs.YtafalbofjmfbnaaDoor
open Go Go.Proofs.YtafalbofjmfbnaaDoor.Eng
section
variable {g : List Nd}
theorem ad_deps {k y : Nat} : Ad (Zz g) k y ↔ Ed g k y := by
 have : (Zz g).length = g.length := by simp [Zz]
 unfold Ad Ed D
 rw [this]
theorem Ziu {k y : Nat} (h : Right g) : Ad (Zf g) k y ↔ Ed g y k := by
 have hl : (Zf g).length = g.length := by simp [Zf]
 unfold Ad
 rw [hl]
 constructor
 ·rintro ⟨hk, hm⟩
  have e : (Zf g).getD k [] = U g g.length k := by simp [Zf, List.getD, hk]
  rw [e] at hm
  obtain ⟨q, h1, h2, h3⟩ := Zev.1 hm
  have : y = q := by omega
  subst this
  exact ⟨h2, h3⟩
 ·intro he
  have hk := (h.ed_lt he).2
  have e : (Zf g).getD k [] = U g g.length k := by simp [Zf, List.getD, hk]
  rw [e]
  exact ⟨hk, Zev.2 ⟨y, rfl, he.1, he.2⟩⟩
def Dir (g : List Nd) (up : Bool) : Nat → Nat → Prop := fun a b => if up then Ed g b a else Ed g a b
theorem Z55 (h : Right g) (up : Bool) {S : List Nat} (hS : ∀ s ∈ S, s < g.length) (hSl : S.length ≤ 1000) :
  ∃ d : List Int, Q2.f (if up then Zf g else Zz g) (ints S) = some d ∧ d.length = g.length ∧ Far g.length (Dir g up) (· ∈ S) (fun k => d.getD k 0) ∧ ∀ k, k < g.length → d.getD k 0 ≤ (g.length : Int) := by
 have hgl := h.len
 have hl : (if up then Zf g else Zz g).length = g.length := by cases up <;> simp [Zf, Zz]
 have hD : ∀ k y, Ad (if up then Zf g else Zz g) k y ↔ Dir g up k y := fun k y => by
  cases up
  ·exact ad_deps
  ·exact Ziu h
 obtain ⟨d, h1, h2, h3, h4⟩ := Zhk (adj := if up then Zf g else Zz g) (S := S) (by omega) (fun k y hk hy => by
  rw [hl] at hk ⊢
  cases up with
  | true =>
   have e : (Zf g).getD k [] = U g g.length k := by simp [Zf, List.getD, hk]
   simp only [if_true, e] at hy
   obtain ⟨q, h1, h2, h3⟩ := Zev.1 hy
   exact ⟨q, h1, h2⟩
  | false =>
   exact h.D_mem hk hy) (fun k hk => by
  rw [hl] at hk
  cases up with
  | true =>
   have e : (Zf g).getD k [] = U g g.length k := by simp [Zf, List.getD, hk]
   simp only [if_true, e]
   have := Ziv g g.length k
   omega
  | false =>
   show (D g k).length ≤ _
   rw [Z83 hk, List.length_map]
   have := (h.nd _ (List.getElem_mem hk)).1
   omega) (fun s hs => by rw [hl]; exact hS s hs) (by omega)
 rw [hl] at h2 h3 h4
 refine ⟨d, h1, h2, ⟨h3.low, h3.src, fun k y hk he => h3.step k y hk ((hD k y).2 he), fun y hy hp => ?_⟩, h4⟩
 obtain ⟨k, k1, k2, k3⟩ := h3.back y hy hp
 exact ⟨k, k1, (hD k y).1 k2, k3⟩
theorem Zj6 (h : Right g) (up : Bool) {k y : Nat} (e : Dir g up k y) : k < g.length ∧ y < g.length := by
 cases up
 ·exact h.ed_lt e
 ·exact ⟨(h.ed_lt e).2, (h.ed_lt e).1⟩
theorem Zik (up : Bool) : (fun x y => Dir g up y x) = Dir g (!up) := by
 funext x y
 cases up <;> rfl
theorem Zie (h : Right g) {up : Bool} {s t : Nat} {d d' : Nat → Int} (hs : s < g.length) (ht : t < g.length) (f : Far g.length (Dir g up) (· ∈ [s]) d) (f' : Far g.length (Dir g (!up)) (· ∈ [t]) d') (h0 : 0 ≤ d t) : 0 ≤ d' s ∧ d' s ≤ d t := by
 obtain ⟨a, m, h1, h2, h3, h4⟩ := f.get ht h0
 have : a = s := List.mem_singleton.1 h2
 subst this
 have hw := h3.flip
 rw [Zik] at hw
 have := f'.way (fun k y e => Zj6 h _ e) ht (List.mem_singleton.2 rfl) hw
 omega
end
end Go.Proofs.YtafalbofjmfbnaaDoor
set_option linter.unusedVariables false
set_option linter.unusedSimpArgs false
namespace Go.Proofs.YtafalbofjmfbnaaDoor
open Go Go.Proofs.YtafalbofjmfbnaaDoor.Eng
def Wi (n : Nat) (d : List Int) (m : Int) : List Nat := (List.range n).filter fun k => decide (0 ≤ d.getD k 0 ∧ (m < 0 ∨ d.getD k 0 ≤ m))
theorem Zj1 {n : Nat} {d : List Int} {m : Int} {k : Nat} : k ∈ Wi n d m ↔ k < n ∧ 0 ≤ d.getD k 0 ∧ (m < 0 ∨ d.getD k 0 ≤ m) := by
 unfold Wi
 rw [List.mem_filter, List.mem_range, decide_eq_true_eq]
theorem Wi_succ (n : Nat) (d : List Int) (m : Int) : Wi (n + 1) d m = Wi n d m ++ (if 0 ≤ d.getD n 0 ∧ (m < 0 ∨ d.getD n 0 ≤ m) then [n] else []) := by
 unfold Wi
 rw [List.range_succ, List.filter_append]
 congr 1
 by_cases h : 0 ≤ d.getD n 0 ∧ (m < 0 ∨ d.getD n 0 ≤ m)
 ·rw [if_pos h, List.filter_cons, if_pos (decide_eq_true h)]; rfl
 ·rw [if_neg h, List.filter_cons, if_neg (by simpa only [decide_eq_true_eq] using h)]; rfl
theorem Zc8 (n : Nat) (d : List Int) (m : Int) : (Wi n d m).length ≤ n := by
 have := List.length_filter_le (fun k => decide (0 ≤ d.getD k 0 ∧ (m < 0 ∨ d.getD k 0 ≤ m))) (List.range n)
 rw [List.length_range] at this
 exact this
theorem Ze2 {d : List Int} {m : Int} (hd : d.length ≤ 1000) : ∀ (n i : Nat), d.length - i = n → i ≤ d.length → Qq.l0 m d (d.length : Int) (i : Int) (ints (Wi i d m)) = some (ints (Wi d.length d m)) := by
 intro n
 induction n with
 | zero =>
  intro i hn hi
  have e : i = d.length := by omega
  subst e
  refine Z1 ?_
  simp only [Qq.s0, Z2]
  rw [if_neg (by omega)]
 | succ n ih =>
  intro i hn hi
  have hlt : i < d.length := by omega
  have hl := Zc8 i d m
  refine (Z3 ?_).trans (ih (i + 1) (by omega) (by omega))
  have er : rd (0 : Int) d (i : Int) = d.getD i 0 := by rw [Zj hlt]; simp [List.getD, hlt]
  have hadd : ints (Wi i d m) ++ [(i : Int)] = ints (Wi i d m ++ [i]) := by simp [ints]
  simp only [Qq.s0, Z2, er, Wi_succ]
  rw [if_pos (by omega), Z0 (by omega)]
  by_cases h1 : 0 ≤ d.getD i 0
  ·rw [if_pos h1]
   by_cases h2 : m < 0
   ·rw [if_pos h2, Z0 (by simp only [List.length_map, List.length_cons, List.length_nil]; omega), Zd (by omega) (by omega), if_pos ⟨h1, .inl h2⟩, hadd]; rfl
   ·rw [if_neg h2]
    by_cases h3 : d.getD i 0 ≤ m
    ·rw [if_pos h3, Z0 (by simp only [List.length_map, List.length_cons, List.length_nil]; omega), Zd (by omega) (by omega), if_pos ⟨h1, .inr h3⟩, hadd]; rfl
    ·rw [if_neg h3, Zd (by omega) (by omega), if_neg (fun h => h.2.elim h2 h3), List.append_nil]; rfl
  ·rw [if_neg h1, Zd (by omega) (by omega), if_neg (fun h => h1 h.1), List.append_nil]; rfl
section
variable {g : List Nd}
theorem Zej (h : Right g) (dp us : List (List Int)) (a : List ByteArray) : (∃ f : Int, f ≠ 0 ∧ Qf.f (some (g, (dp, us))) a = some ([], f)) ∨
  ∃ L : List Nat, L.length = a.length ∧ a.length ≤ 1000 ∧ (∀ x ∈ L, x < g.length) ∧ L.map (labN g) = a ∧ Qf.f (some (g, (dp, us))) a = some (ints L, 0) := by
 unfold Qf.f
 simp only [Z2]
 by_cases ha : (1000 : Int) < ((a.length : Nat) : Int)
 ·rw [if_pos ha]; exact .inl ⟨2, by decide, rfl⟩
 ·rw [if_neg ha]
  have hgl := h.len
  have go : ∀ (n i : Nat) (L : List Nat), a.length - i = n → i ≤ a.length → L.length = i → (∀ x ∈ L, x < g.length) → L.map (labN g) = a.take i →
    Qf.l0 (some (g, (dp, us))) a (a.length : Int) (i : Int) (ints L) = some (.inl ([], 9)) ∨
    ∃ L', L'.length = a.length ∧ (∀ x ∈ L', x < g.length) ∧ L'.map (labN g) = a ∧ Qf.l0 (some (g, (dp, us))) a (a.length : Int) (i : Int) (ints L) = some (.inr (ints L')) := by
   intro n
   induction n with
   | zero =>
    intro i L hn hi hL h1 h2
    rw [List.take_of_length_le (by omega)] at h2
    refine .inr ⟨L, by omega, h1, h2, Z1 ?_⟩
    simp only [Qf.s0, Z2]
    rw [if_neg (by omega)]
   | succ n ih =>
    intro i L hn hi hL h1 h2
    have hlt : i < a.length := by omega
    rcases h.at a[i] with ⟨h3, h4⟩
    rcases h4 with ⟨h4, _⟩ | ⟨d, h4, hd, h5⟩
    ·left
     refine Z1 ?_
     simp only [Qf.s0, Z2, Zj hlt, Option.isSome_some, Option.getD_some, h3, h4, ob_s]
     rw [if_pos (by omega), Z0 (by omega), Z0 trivial, if_pos (by omega)]
    ·have hadd : ints (L ++ [d]) = ints L ++ [(d : Int)] := by simp [ints]
     have hs : Qf.s0 (some (g, (dp, us))) a (a.length : Int) (i : Int) (ints L) = some (.inl (((i + 1 : Nat) : Int), ints (L ++ [d]))) := by
      simp only [Qf.s0, Z2, Zj hlt, Option.isSome_some, Option.getD_some, h3, h4, ob_s]
      rw [if_pos (by omega), Z0 (by omega), Z0 trivial, if_neg (by omega), Z0 (by simp only [List.length_map, List.length_cons, List.length_nil]; omega), Zd (by omega) (by omega), hadd]
      rfl
     rcases ih (i + 1) (L ++ [d]) (by omega) (by omega) (by simp [hL]) (fun x hx => by
       rcases List.mem_append.1 hx with hx | hx
       ·exact h1 x hx
       ·rw [List.mem_singleton.1 hx]; exact hd) (by
       rw [List.map_append, h2, List.take_succ_eq_append_getElem hlt, List.map_cons, List.map_nil, Z6t hd, h5]) with h6 | ⟨L', k1, k2, k3, k4⟩
     ·exact .inl ((Z3 hs).trans h6)
     ·exact .inr ⟨L', k1, k2, k3, (Z3 hs).trans k4⟩
  rcases go a.length 0 [] (by omega) (by omega) rfl (fun x hx => by cases hx) (by simp) with h1 | ⟨L', k1, k2, k3, k4⟩
  ·left
   have h1' : Qf.l0 (some (g, (dp, us))) a (a.length : Int) 0 [] = _ := h1
   rw [h1']
   exact ⟨9, by decide, rfl⟩
  ·right
   have k4' : Qf.l0 (some (g, (dp, us))) a (a.length : Int) 0 [] = _ := k4
   rw [k4']
   exact ⟨L', k1, by omega, k2, k3, rfl⟩
theorem Zag (h : Right g) (up : Bool) {S : List Nat} (hS : ∀ s ∈ S, s < g.length) (hSl : S.length ≤ 1000) (m : Int) :
  ∃ d : List Int, Far g.length (Dir g up) (· ∈ S) (fun k => d.getD k 0) ∧ Qq.f (if up then Zf g else Zz g) (ints S) m = some (ints (Wi g.length d m)) ∧ d.length = g.length ∧ Q2.f (if up then Zf g else Zz g) (ints S) = some d := by
 have hgl := h.len
 obtain ⟨d, h1, h2, h3, _⟩ := Z55 h up hS hSl
 refine ⟨d, h3, ?_, h2, h1⟩
 unfold Qq.f
 have h4 := Ze2 (d := d) (m := m) (by omega) d.length 0 (by omega) (by omega)
 have h4' : Qq.l0 m d (d.length : Int) 0 [] = some (ints (Wi d.length d m)) := h4
 simp only [h1, ob_s, h4']
 rw [h2]
theorem Zef (hs : ∀ n ∈ g, szNd n) (a : List ByteArray) (m : Int) (up : Bool) : (∃ f : Int, f ≠ 0 ∧ Q1u.f g a m up = some ([], f)) ∨
  (Right g ∧ -1 ≤ m ∧ m ≤ 1000 ∧ ∃ S : List Nat, S.length = a.length ∧ a.length ≤ 1000 ∧ (∀ x ∈ S, x < g.length) ∧ S.map (labN g) = a ∧ ∃ d : List Int, Far g.length (Dir g up) (· ∈ S) (fun k => d.getD k 0) ∧
   Q1u.f g a m up = some ((Wi g.length d m).map (labN g), 0)) := by
 unfold Q1u.f Q14.f
 rcases Z95 hs with ⟨f, h1, h2⟩ | ⟨h, h2⟩
 ·rw [h2]
  simp only [ob_s, Z15, Z2]
  rw [if_neg h1]
  simp only [ob_s]
  rw [if_neg h1]
  exact .inl ⟨f, h1, rfl⟩
 ·rw [h2]
  simp only [ob_s, Z15, Z2, if_true]
  rcases Z59 h with ⟨R, r1, r2, r3⟩ | ⟨L, r1, r2, r3⟩
  ·left
   rw [r3]
   exact ⟨17, by decide, rfl⟩
  ·rw [r3]
   simp only [ob_s, cb_t, if_true]
   rcases Zej h (Zz g) (Zf g) a with ⟨f, k1, k2⟩ | ⟨S, k1, k2, k3, k4, k5⟩
   ·rw [k2]
    simp only [ob_s]
    rw [if_neg k1]
    exact .inl ⟨f, k1, rfl⟩
   ·rw [k5]
    simp only [ob_s, if_true]
    by_cases m1 : m < -1
    ·rw [if_pos m1]; exact .inl ⟨1, by decide, rfl⟩
    ·by_cases m2 : 1000 < m
     ·rw [if_neg m1, if_pos m2]; exact .inl ⟨1, by decide, rfl⟩
     ·rw [if_neg m1, if_neg m2]
      right
      obtain ⟨d, d1, d2, d3, d4⟩ := Zag h up (S := S) k3 (by omega) m
      have hgl := h.len
      have hwl := Zc8 g.length d m
      refine ⟨h, by omega, by omega, S, k1, k2, k3, k4, d, d1, ?_⟩
      simp only [Option.isSome_some, Option.getD_some, Z82]
      have hlab := Z1z g (Zz g) (Zf g) (L := Wi g.length d m) (by omega) hgl (fun x hx => (Zj1.1 hx).1)
      cases up with
      | true =>
       simp only [if_true] at d2
       rw [cb_t, d2]
       simp only [ob_s, hlab]
      | false =>
       have d2' : Qq.f (Zz g) (ints S) m = _ := d2
       rw [cb_f, d2']
       simp only [ob_s, hlab]
end
end Go.Proofs.YtafalbofjmfbnaaDoor
set_option linter.unusedVariables false
set_option linter.unusedSimpArgs false
namespace Go.Proofs.YtafalbofjmfbnaaDoor
open Go Go.Proofs.YtafalbofjmfbnaaDoor.Eng
section
variable {g : List Nd}
theorem Ord.noloop {L : List Nat} (h : Right g) (ho : Ord g L) (hl : L.length = g.length) : ∀ x m, x < g.length → ¬ Go.Proofs.YtafalbofjmfbnaaDoor.Eng.Way (Ed g) x x (m + 1) := by
 have key : ∀ {a b m}, Go.Proofs.YtafalbofjmfbnaaDoor.Eng.Way (Ed g) a b m → ∀ p q : Nat, ∀ hp : p < L.length, ∀ hq : q < L.length, L[p] = a → L[q] = b → q + m ≤ p := by
  intro a b m hw
  induction hw with
  | nil =>
   intro p q hp hq h1 h2
   have := Zbf ho.nodup hp hq (by rw [h1, h2])
   omega
  | @snoc b c m hw e ih =>
   intro p q hp hq h1 h2
   obtain ⟨r, hr, hre⟩ := List.getElem_of_mem (ho.all hl (h.ed_lt e).1)
   have h3 := ih p r hp hr h1 hre
   have h4 := ho.dep r hr c (by rw [hre]; exact e)
   obtain ⟨t, ht, hte⟩ := List.getElem_of_mem h4
   have htr : t < r := by have := ht; simp at this; omega
   rw [List.getElem_take] at hte
   have := Zbf ho.nodup (by omega : t < L.length) hq (by rw [hte, h2])
   omega
 intro x m hx hw
 obtain ⟨p, hp, hpe⟩ := List.getElem_of_mem (ho.all hl hx)
 have := key hw p p hp hp hpe hpe
 omega
end
end Go.Proofs.YtafalbofjmfbnaaDoor
set_option linter.unusedVariables false
set_option linter.unusedSimpArgs false
namespace Go.Proofs.YtafalbofjmfbnaaDoor
open Go Go.Proofs.YtafalbofjmfbnaaDoor.Eng
section
variable {g : List Nd}
end
end Go.Proofs.YtafalbofjmfbnaaDoor
set_option linter.unusedVariables false
set_option linter.unusedSimpArgs false
namespace Go.Proofs.YtafalbofjmfbnaaDoor
open Go Go.Proofs.YtafalbofjmfbnaaDoor.Eng
section
variable {g : List Nd}
theorem Zi1 (h : Right g) {d : List Int} (hd : d.length = g.length) {b : Nat} (f : Far g.length (Dir g true) (· ∈ [b]) (fun k => d.getD k 0)) (hle : ∀ k, k < g.length → d.getD k 0 ≤ (g.length : Int)) {a : Nat} (ha : a < g.length) (hp : 0 < d.getD a 0) (o : List Int) :
  ∃ k : Nat, Ed g a k ∧ d.getD k 0 = d.getD a 0 - 1 ∧ Qe.l1 d (D g a) ((D g a).length : Int) (a : Int) 0 o = some ((k : Int), o) := by
 have hgl := h.len
 have hdl := D_len h ha
 have hla := hle a ha
 obtain ⟨k0, k1, k2, k3⟩ := f.back a ha hp
 have hm : (k0 : Int) ∈ D g a := k2.2
 obtain ⟨q0, hq0, hq1⟩ := List.getElem_of_mem hm
 have go : ∀ (n i : Nat), q0 - i = n → i ≤ q0 → ∃ k : Nat, Ed g a k ∧ d.getD k 0 = d.getD a 0 - 1 ∧ Qe.l1 d (D g a) ((D g a).length : Int) (a : Int) (i : Int) o = some ((k : Int), o) := by
  intro n
  induction n with
  | zero =>
   intro i hn hi
   have e : i = q0 := by omega
   subst e
   refine ⟨k0, k2, k3, Z1 ?_⟩
   simp only [Qe.s1, Z2, Zj hq0, hq1]
   have k1' := d_rd (d := d) (k := k0) (by omega)
   have a1' := d_rd (d := d) (k := a) (by omega)
   rw [if_pos (by omega), Z0 (by omega), Z0 (by omega), k1', a1']
   rw [if_pos (by omega), Z0 (by omega), Z0 (by omega), Zd (by omega) (by omega), if_pos (by omega)]
  | succ n ih =>
   intro i hn hi
   have hlt : i < (D g a).length := by omega
   obtain ⟨y, y1, y2⟩ := h.D_mem ha (List.getElem_mem hlt)
   have hy' := d_rd (d := d) (k := y) (by omega)
   have a1' := d_rd (d := d) (k := a) (by omega)
   by_cases hstop : 0 ≤ d.getD y 0 ∧ d.getD y 0 = d.getD a 0 - 1
   ·refine ⟨y, ⟨ha, by rw [← y1]; exact List.getElem_mem hlt⟩, hstop.2, Z1 ?_⟩
    simp only [Qe.s1, Z2, Zj hlt, y1]
    rw [if_pos (by omega), Z0 (by omega), Z0 (by omega), hy', a1', if_pos hstop.1, Z0 (by omega), Z0 (by omega), Zd (by omega) (by omega), if_pos hstop.2]
   ·obtain ⟨k, e1, e2, e3⟩ := ih (i + 1) (by omega) (by omega)
    refine ⟨k, e1, e2, (Z3 ?_).trans e3⟩
    simp only [Qe.s1, Z2, Zj hlt, y1]
    rw [if_pos (by omega), Z0 (by omega), Z0 (by omega), hy', a1']
    by_cases hc : 0 ≤ d.getD y 0
    ·rw [if_pos hc, Z0 (by omega), Z0 (by omega), Zd (by omega) (by omega), if_neg (fun e => hstop ⟨hc, e⟩), Zd (by omega) (by omega)]; rfl
    ·rw [if_neg hc, Zd (by omega) (by omega)]; rfl
 exact go q0 0 (by omega) (Nat.zero_le _)
structure Shortest (g : List Nd) (d : List Int) (a b : Nat) (W : List Nat) : Prop where
 len : (W.length : Int) = d.getD a 0 + 1
 lt : ∀ x ∈ W, x < g.length
 at0 : W[0]? = some a
 dist : ∀ i : Nat, ∀ hi : i < W.length, d.getD W[i] 0 = d.getD a 0 - i
 ed : ∀ i : Nat, ∀ hi : i + 1 < W.length, Ed g W[i] W[i + 1]
 last : W[W.length - 1]? = some b
theorem wayLoop (h : Right g) {d : List Int} (hd : d.length = g.length) {b : Nat} (hb : b < g.length) (f : Far g.length (Dir g true) (· ∈ [b]) (fun k => d.getD k 0)) (hle : ∀ k, k < g.length → d.getD k 0 ≤ (g.length : Int)) :
  ∀ (n : Nat) (a : Nat) (V : List Nat), a < g.length → d.getD a 0 = n → V.length + n ≤ 2000 →
   ∃ W : List Nat, Qe.l0 (net g) (b : Int) d (a : Int) (ints V ++ [(a : Int)]) = some (ints V ++ ints W) ∧ Shortest g d a b W := by
 have hgl := h.len
 have hsrc : ∀ k, k < g.length → (d.getD k 0 = 0 ↔ k = b) := fun k hk => by rw [f.src k hk]; simp
 intro n
 induction n with
 | zero =>
  intro a V ha hda hV
  have e : a = b := (hsrc a ha).1 hda
  subst e
  refine ⟨[a], Z1 ?_, ⟨by rw [hda]; rfl, fun x hx => by rw [List.mem_singleton.1 hx]; exact ha, rfl, fun i hi => ?_, fun i hi => by simp at hi, rfl⟩⟩
  ·simp only [Qe.s0, decide_true, Bool.not_true, cb_f, ints, List.map_cons, List.map_nil]
  ·have : i = 0 := by simp at hi; exact hi
   subst this
   simp
 | succ n ih =>
  intro a V ha hda hV
  have hab : a ≠ b := fun e => by have := (hsrc a ha).2 e; omega
  obtain ⟨k, k1, k2, k3⟩ := Zi1 h hd f hle ha (by omega) (ints V ++ [(a : Int)])
  have hk := (h.ed_lt k1).2
  have hadd : ints V ++ [(a : Int)] = ints (V ++ [a]) := by simp [ints]
  obtain ⟨W, w1, w2⟩ := ih k (V ++ [a]) hk (by omega) (by simp; omega)
  have hdl : (Zz g).length = g.length := by simp [Zz]
  refine ⟨a :: W, (Z3 (x' := ((k : Int), ints (V ++ [a]) ++ [(k : Int)])) ?_).trans (w1.trans ?_), ?_⟩
  ·simp only [Qe.s0, Z15, Z2, Option.isSome_some, Option.getD_some, Z82, Zd2 ha, k3, ob_s, ← hadd]
   rw [if_neg (by omega), Z0 (by omega), Z0 (by simp only [List.length_append, List.length_map, List.length_cons, List.length_nil]; omega)]
  ·simp [ints]
  ·have hl := w2.len
   refine ⟨by simp only [List.length_cons]; omega, fun x hx => ?_, rfl, fun i hi => ?_, fun i hi => ?_, ?_⟩
   ·rcases List.mem_cons.1 hx with e | hx
    ·rw [e]; exact ha
    ·exact w2.lt x hx
   ·cases i with
    | zero => simp
    | succ i =>
     have := w2.dist i (by simpa using hi)
     simp only [List.getElem_cons_succ, this]
     omega
   ·cases i with
    | zero =>
     have h0 := w2.at0
     have hi' : 0 < W.length := by simpa using hi
     rw [List.getElem?_eq_getElem hi'] at h0
     simp only [List.getElem_cons_zero, List.getElem_cons_succ]
     rw [Option.some.inj h0]
     exact k1
    | succ i => exact w2.ed i (by simpa using hi)
   ·have h0 := w2.last
    have hw : 0 < W.length := by omega
    simp only [List.length_cons, Nat.add_sub_cancel]
    rw [List.getElem?_cons, if_neg (by omega)]
    exact h0
theorem Ziw (h : Right g) {a b : Nat} (ha : a < g.length) (hb : b < g.length) {d : List Int} (hs : Q2.f (Zf g) (ints [b]) = some d) (hd : d.length = g.length) (f : Far g.length (Dir g true) (· ∈ [b]) (fun k => d.getD k 0)) (hle : ∀ k, k < g.length → d.getD k 0 ≤ (g.length : Int)) (h0 : 0 ≤ d.getD a 0) :
  ∃ W : List Nat, Qe.f (net g) (a : Int) (b : Int) = some (ints W) ∧ Shortest g d a b W := by
 have hgl := h.len
 have := hle a ha
 obtain ⟨W, w1, w2⟩ := wayLoop h hd hb f hle (d.getD a 0).toNat a [] ha (by omega) (by rw [List.length_nil]; omega)
 refine ⟨W, ?_, w2⟩
 unfold Qe.f
 have hs' : Q2.f (Zf g) [(b : Int)] = some d := hs
 have w1' : Qe.l0 (net g) (b : Int) d (a : Int) [(a : Int)] = some (ints W) := w1
 simp only [Option.isSome_some, Option.getD_some, Z82, hs', ob_s, w1']
end
end Go.Proofs.YtafalbofjmfbnaaDoor
set_option linter.unusedVariables false
set_option linter.unusedSimpArgs false
namespace Go.Proofs.YtafalbofjmfbnaaDoor
open Go Go.Proofs.YtafalbofjmfbnaaDoor.Eng
section
variable {g : List Nd}
end
end Go.Proofs.YtafalbofjmfbnaaDoor
set_option linter.unusedVariables false
set_option linter.unusedSimpArgs false
namespace Go.Proofs.YtafalbofjmfbnaaDoor
open Go Go.Proofs.YtafalbofjmfbnaaDoor.Eng
section
variable {g : List Nd}
theorem Zci (hs : ∀ n ∈ g, szNd n) : (∃ f : Int, f ≠ 0 ∧ Q14.f g = some (none, ([], f))) ∨ (Right g ∧ ∃ L, Ord g L ∧ L.length = g.length ∧ Q14.f g = some (net g, (ints L, 0))) := by
 unfold Q14.f
 rcases Z95 hs with ⟨f, h1, h2⟩ | ⟨h, h2⟩
 ·rw [h2]
  simp only [ob_s, Z15, Z2, if_neg h1]
  exact .inl ⟨f, h1, rfl⟩
 ·rw [h2]
  simp only [ob_s, Z15, Z2, if_true]
  rcases Z59 h with ⟨R, r1, r2, r3⟩ | ⟨L, r1, r2, r3⟩
  ·left
   rw [r3]
   exact ⟨17, by decide, rfl⟩
  ·rw [r3]
   exact .inr ⟨h, L, r1, r2, rfl⟩
theorem two_eq (hs : ∀ n ∈ g, szNd n) (a b : ByteArray) : (∃ f : Int, f ≠ 0 ∧ Q21.f g a b = some (none, (0, (0, f)))) ∨
  (Right g ∧ ∃ O x y, x < g.length ∧ y < g.length ∧ labN g x = a ∧ labN g y = b ∧ Q14.f g = some (net g, (O, 0)) ∧ Q21.f g a b = some (net g, ((x : Int), ((y : Int), 0)))) := by
 unfold Q21.f
 rcases Zci hs with ⟨f, h1, h2⟩ | ⟨h, L, _, _, h2⟩
 ·rw [h2]
  simp only [ob_s, Z15, Z2, if_neg h1]
  exact .inl ⟨f, h1, rfl⟩
 ·rw [h2]
  obtain ⟨a1, a2⟩ := h.at a
  obtain ⟨b1, b2⟩ := h.at b
  simp only [ob_s, Z15, Z2, if_true, a1, b1]
  rcases a2 with ⟨a2, _⟩ | ⟨x, a2, hx, a3⟩
  ·rw [if_pos (by omega)]
   exact .inl ⟨9, by decide, rfl⟩
  ·rw [if_neg (by omega)]
   rcases b2 with ⟨b2, _⟩ | ⟨y, b2, hy, b3⟩
   ·rw [if_pos (by omega)]
    exact .inl ⟨9, by decide, rfl⟩
   ·rw [if_neg (by omega), a2, b2]
    exact .inr ⟨h, _, x, y, hx, hy, by rw [Z6t hx, a3], by rw [Z6t hy, b3], rfl, rfl⟩
def Be (n : Nat) (d e : List Int) : List Nat := (List.range n).filter fun k => decide (0 ≤ d.getD k 0 ∧ 0 ≤ e.getD k 0)
theorem mem_Be {n : Nat} {d e : List Int} {k : Nat} : k ∈ Be n d e ↔ k < n ∧ 0 ≤ d.getD k 0 ∧ 0 ≤ e.getD k 0 := by
 unfold Be
 rw [List.mem_filter, List.mem_range, decide_eq_true_eq]
theorem Be_succ (n : Nat) (d e : List Int) : Be (n + 1) d e = Be n d e ++ (if 0 ≤ d.getD n 0 ∧ 0 ≤ e.getD n 0 then [n] else []) := by
 unfold Be
 rw [List.range_succ, List.filter_append]
 congr 1
 by_cases h : 0 ≤ d.getD n 0 ∧ 0 ≤ e.getD n 0
 ·rw [if_pos h, List.filter_cons, if_pos (decide_eq_true h)]; rfl
 ·rw [if_neg h, List.filter_cons, if_neg (by simpa only [decide_eq_true_eq] using h)]; rfl
theorem Zjc (n : Nat) (d e : List Int) : (Be n d e).length ≤ n := by
 have := List.length_filter_le (fun k => decide (0 ≤ d.getD k 0 ∧ 0 ≤ e.getD k 0)) (List.range n)
 rw [List.length_range] at this
 exact this
theorem beLoop {d e : List Int} {m : Nat} (hd : d.length = m) (he : e.length = m) (hm : m ≤ 1000) : ∀ (n i : Nat), m - i = n → i ≤ m → Qm.l0 d e (m : Int) (i : Int) (ints (Be i d e)) = some (ints (Be m d e)) := by
 intro n
 induction n with
 | zero =>
  intro i hn hi
  have e' : i = m := by omega
  subst e'
  refine Z1 ?_
  simp only [Qm.s0, Z2]
  rw [if_neg (by omega)]
 | succ n ih =>
  intro i hn hi
  have hlt : i < m := by omega
  have hl := Zjc i d e
  refine (Z3 ?_).trans (ih (i + 1) (by omega) (by omega))
  have er := d_rd (d := d) (k := i) (by omega)
  have er2 := d_rd (d := e) (k := i) (by omega)
  have hadd : ints (Be i d e) ++ [(i : Int)] = ints (Be i d e ++ [i]) := by simp [ints]
  simp only [Qm.s0, Z2, er, er2, Be_succ]
  rw [if_pos (by omega), Z0 (by omega)]
  by_cases h1 : 0 ≤ d.getD i 0
  ·rw [if_pos h1, Z0 (by omega)]
   by_cases h2 : 0 ≤ e.getD i 0
   ·rw [if_pos h2, Z0 (by simp only [List.length_map, List.length_cons, List.length_nil]; omega), Zd (by omega) (by omega), if_pos ⟨h1, h2⟩, hadd]; rfl
   ·rw [if_neg h2, Zd (by omega) (by omega), if_neg (fun h => h2 h.2), List.append_nil]; rfl
  ·rw [if_neg h1, Zd (by omega) (by omega), if_neg (fun h => h1 h.1), List.append_nil]; rfl
end
end Go.Proofs.YtafalbofjmfbnaaDoor
set_option linter.unusedVariables false
set_option linter.unusedSimpArgs false
namespace Go.Proofs.YtafalbofjmfbnaaDoor
open Go Go.Proofs.YtafalbofjmfbnaaDoor.Eng
section
variable {g : List Nd}
structure Ring (g : List Nd) (L : List Nat) : Prop where
 ne : 0 < L.length
 lt : ∀ x ∈ L, x < g.length
 ed : ∀ i : Nat, ∀ hi : i < L.length, Ed g L[i] (if h : i + 1 < L.length then L[i + 1] else L[0])
 nodup : ∀ i j : Nat, ∀ hj : j < L.length, ∀ hi : i < j, L[i] ≠ L[j]
theorem Zis (h : Right g) {d : List Int} (hd : d.length = g.length) {x : Nat} (hx : x < g.length) : ∀ (n i : Nat) (r : Int), (D g x).length - i = n → i ≤ (D g x).length →
  ((r = -1 ∧ ∀ y : Nat, (y : Int) ∈ (D g x).take i → d.getD y 0 < 0) ∨ ∃ k : Nat, r = k ∧ Ed g x k ∧ 0 ≤ d.getD k 0) →
  ∃ r', Qa.l1 d (D g x) ((D g x).length : Int) r (i : Int) = some r' ∧ ((r' = -1 ∧ ∀ y : Nat, (y : Int) ∈ D g x → d.getD y 0 < 0) ∨ ∃ k : Nat, r' = k ∧ Ed g x k ∧ 0 ≤ d.getD k 0) := by
 have hgl := h.len
 have hdl := D_len h hx
 intro n
 induction n with
 | zero =>
  intro i r hn hi hr
  rw [List.take_of_length_le (by omega)] at hr
  refine ⟨r, Z1 ?_, hr⟩
  simp only [Qa.s1, Z2]
  rw [if_neg (by omega)]
 | succ n ih =>
  intro i r hn hi hr
  have hlt : i < (D g x).length := by omega
  obtain ⟨y, y1, y2⟩ := h.D_mem hx (List.getElem_mem hlt)
  have hE : Ed g x y := ⟨hx, by rw [← y1]; exact List.getElem_mem hlt⟩
  have hy := d_rd (d := d) (k := y) (by omega)
  have hn1 : (D g x).length - (i + 1) = n := by clear hr; omega
  have hi1 : i + 1 ≤ (D g x).length := by clear hr; omega
  have step : ∀ r' : Int, Qa.s1 d (D g x) ((D g x).length : Int) r (i : Int) = some (.inl (r', ((i + 1 : Nat) : Int))) → ((r' = -1 ∧ ∀ y : Nat, (y : Int) ∈ (D g x).take (i + 1) → d.getD y 0 < 0) ∨ ∃ k : Nat, r' = k ∧ Ed g x k ∧ 0 ≤ d.getD k 0) →
    ∃ r', Qa.l1 d (D g x) ((D g x).length : Int) r (i : Int) = some r' ∧ ((r' = -1 ∧ ∀ y : Nat, (y : Int) ∈ D g x → d.getD y 0 < 0) ∨ ∃ k : Nat, r' = k ∧ Ed g x k ∧ 0 ≤ d.getD k 0) := fun r' h1 h2 => by
   obtain ⟨r2, h3, h4⟩ := ih (i + 1) r' hn1 hi1 h2
   exact ⟨r2, (Z3 h1).trans h3, h4⟩
  by_cases h0 : 0 ≤ d.getD y 0
  ·by_cases hr0 : r < 0
   ·refine step (y : Int) ?_ (.inr ⟨y, rfl, hE, h0⟩)
    simp only [Qa.s1, Z2, Zj hlt, y1]
    rw [if_pos (by omega), Z0 (by omega), Z0 (by omega), hy, if_pos h0, if_pos hr0, Zd (by omega) (by omega)]; rfl
   ·rcases hr with ⟨hr, _⟩ | ⟨k, hr, hk1, hk2⟩
    ·omega
    ·have hkl := (h.ed_lt hk1).2
     have hk := d_rd (d := d) (k := k) (by omega)
     subst hr
     by_cases hc : d.getD y 0 < d.getD k 0
     ·refine step (y : Int) ?_ (.inr ⟨y, rfl, hE, h0⟩)
      simp only [Qa.s1, Z2, Zj hlt, y1]
      rw [if_pos (by omega), Z0 (by omega), Z0 (by omega), hy, if_pos h0, if_neg hr0, Z0 (by omega), Z0 (by omega), hk, if_pos hc, Zd (by omega) (by omega)]; rfl
     ·refine step (k : Int) ?_ (.inr ⟨k, rfl, hk1, hk2⟩)
      simp only [Qa.s1, Z2, Zj hlt, y1]
      rw [if_pos (by omega), Z0 (by omega), Z0 (by omega), hy, if_pos h0, if_neg hr0, Z0 (by omega), Z0 (by omega), hk, if_neg hc, Zd (by omega) (by omega)]; rfl
  ·refine step r ?_ ?_
   ·simp only [Qa.s1, Z2, Zj hlt, y1]
    rw [if_pos (by omega), Z0 (by omega), Z0 (by omega), hy, if_neg h0, Zd (by omega) (by omega)]; rfl
   ·rcases hr with ⟨hr, hr2⟩ | hr
    ·refine .inl ⟨hr, fun w hw => ?_⟩
     rw [List.take_succ_eq_append_getElem hlt, List.mem_append, List.mem_singleton, y1] at hw
     rcases hw with hw | hw
     ·exact hr2 w hw
     ·have : w = y := by omega
      subst this; omega
    ·exact .inr hr
theorem ring_of {d : List Int} (h : Right g) {x k : Nat} (hx : x < g.length) (hd : d.length = g.length) (h00 : d.getD x 0 = 0) (he : Ed g x k) {W : List Nat} (w : Shortest g d k x W) : Ring g (x :: W.take (W.length - 1)) := by
 have hwl := w.len
 have hk0 : 0 ≤ d.getD k 0 ∨ d.getD k 0 < 0 := by omega
 have hw0 : 0 < W.length := by
  have := w.at0
  rcases Nat.eq_zero_or_pos W.length with h0 | h0
  ·rw [List.eq_nil_of_length_eq_zero h0] at this; cases this
  ·exact h0
 have hV : ∀ i : Nat, ∀ hi : i < (x :: W.take (W.length - 1)).length, ∃ h2 : i < (x :: W).length, (x :: W.take (W.length - 1))[i] = (x :: W)[i] := fun i hi => by
  simp only [List.length_cons, List.length_take] at hi
  refine ⟨by simp only [List.length_cons]; omega, ?_⟩
  cases i with
  | zero => rfl
  | succ i => simp
 have hlen : (x :: W.take (W.length - 1)).length = W.length := by simp; omega
 have hVe : ∀ i : Nat, ∀ hi : i + 1 < (x :: W).length, Ed g (x :: W)[i] (x :: W)[i + 1] := fun i hi => by
  cases i with
  | zero =>
   have h0 := w.at0
   rw [List.getElem?_eq_getElem hw0] at h0
   simp only [List.getElem_cons_zero, List.getElem_cons_succ]
   rw [Option.some.inj h0]; exact he
  | succ i => exact w.ed i (by simpa using hi)
 have hlast : (x :: W)[W.length]'(by simp) = x := by
  have h0 := w.last
  rw [List.getElem?_eq_getElem (by omega)] at h0
  have : (x :: W)[W.length]'(by simp) = W[W.length - 1]'(by omega) := by
   obtain ⟨m, hm⟩ : ∃ m, W.length = m + 1 := ⟨W.length - 1, by omega⟩
   simp only [hm, List.getElem_cons_succ, Nat.add_sub_cancel]
  rw [this]; exact Option.some.inj h0
 refine ⟨by simp, fun y hy => ?_, fun i hi => ?_, fun i j hj hi => ?_⟩
 ·rcases List.mem_cons.1 hy with e | hy
  ·rw [e]; exact hx
  ·exact w.lt y (List.mem_of_mem_take hy)
 ·obtain ⟨g1, g2⟩ := hV i hi
  have hi' : i + 1 < (x :: W).length := by simp only [List.length_cons]; omega
  have := hVe i hi'
  rw [g2]
  split
  ·rename_i h3
   rw [(hV (i + 1) h3).2]; exact this
  ·rename_i h3
   have e : i + 1 = W.length := by omega
   simp only [List.getElem_cons_zero]
   have : (x :: W)[i + 1] = x := by
    have := hlast
    simp only [← e] at this
    exact this
   have h5 := hVe i hi'
   rw [this] at h5
   exact h5
 ·intro e
  obtain ⟨j', rfl⟩ : ∃ j', j = j' + 1 := ⟨j - 1, by omega⟩
  have hj' : j' < W.length := by omega
  have dj : d.getD (x :: W.take (W.length - 1))[j' + 1] 0 = d.getD k 0 - j' := by
   rw [(hV _ hj).2]; exact w.dist j' hj'
  rw [← e] at dj
  cases i with
  | zero =>
   simp only [List.getElem_cons_zero] at dj
   omega
  | succ i =>
   have hi' : i < W.length := by omega
   have di : d.getD ((x :: W.take (W.length - 1))[i + 1]'(by omega)) 0 = d.getD k 0 - i := by
    rw [(hV _ (by omega)).2]; exact w.dist i hi'
   omega
theorem loopNet (h : Right g) : ∀ (n x : Nat), g.length - x = n → x ≤ g.length →
  (∃ L, Ring g L ∧ Qa.l0 (net g) (g.length : Int) (x : Int) = some (.inl (ints L))) ∨
  (Qa.l0 (net g) (g.length : Int) (x : Int) = some (.inr ()) ∧ ∀ y : Nat, x ≤ y → y < g.length → ∀ k m, Ed g y k → ¬ Go.Proofs.YtafalbofjmfbnaaDoor.Eng.Way (Ed g) k y m) := by
 have hgl := h.len
 intro n
 induction n with
 | zero =>
  intro x hn hx
  refine .inr ⟨Z1 ?_, fun y h1 h2 => by omega⟩
  simp only [Qa.s0, Z2]
  rw [if_neg (by omega)]
 | succ n ih =>
  intro x hn hx
  have hlt : x < g.length := by omega
  have hdl : (Zz g).length = g.length := by simp [Zz]
  obtain ⟨d, d1, d2, d3, d4⟩ := Z55 h true (S := [x]) (fun s hs => by rw [List.mem_singleton.1 hs]; exact hlt) (by simp)
  simp only [if_true] at d1
  have d1' : Q2.f (Zf g) [(x : Int)] = some d := d1
  have h00 : d.getD x 0 = 0 := (d3.src x hlt).2 (List.mem_singleton.2 rfl)
  obtain ⟨r, r1, r2⟩ := Zis h d2 hlt _ 0 (-1) rfl (Nat.zero_le _) (.inl ⟨rfl, fun y hy => by simp at hy⟩)
  rw [show ((0 : Nat) : Int) = 0 from rfl] at r1
  rcases r2 with ⟨e, hno⟩ | ⟨k, e, hk1, hk2⟩
  ·have hs : Qa.s0 (net g) (g.length : Int) (x : Int) = some (.inl ((x + 1 : Nat) : Int)) := by
    simp only [Qa.s0, Z2, Option.isSome_some, Option.getD_some, Z82, d1', ob_s, Zd2 hlt, r1, e]
    rw [if_pos (by omega), Z0 (by omega), if_neg (by decide), Zd (by omega) (by omega)]; rfl
   rcases ih (x + 1) (by omega) (by omega) with ⟨L, l1, l2⟩ | ⟨l1, l2⟩
   ·exact .inl ⟨L, l1, (Z3 hs).trans l2⟩
   ·refine .inr ⟨(Z3 hs).trans l1, fun y h1 h2 k m he hw => ?_⟩
    by_cases hyx : y = x
    ·subst hyx
     have h3 := hno k he.2
     have h4 := d3.way (fun a b e => Zj6 h _ e) hlt (List.mem_singleton.2 rfl) hw.flip
     omega
    ·exact l2 y (by omega) h2 k m he hw
  ·subst e
   have hkl := (h.ed_lt hk1).2
   obtain ⟨W, w1, w2⟩ := Ziw h hkl hlt d1 d2 d3 d4 hk2
   have hR := ring_of h hlt d2 h00 hk1 w2
   have hWl := w2.len
   have hdk := d4 k hkl
   refine .inl ⟨_, hR, Z1 ?_⟩
   simp only [Qa.s0, Z2, Option.isSome_some, Option.getD_some, Z82, d1', ob_s, Zd2 hlt, r1, w1, List.length_append, List.length_cons, List.length_nil, List.length_map]
   rw [if_pos (by omega), Z0 (by omega), if_pos (by omega), Z0 (by omega), Zd (by omega) (by omega), Z0 (by omega)]
   have e1 : (((0 + 1 + W.length : Nat) : Int) - 1).toNat = (W.length - 1) + 1 := by omega
   rw [e1]
   simp [ints]
end
end Go.Proofs.YtafalbofjmfbnaaDoor
set_option linter.unusedVariables false
set_option linter.unusedSimpArgs false
namespace Go.Proofs.YtafalbofjmfbnaaDoor
open Go Go.Proofs.YtafalbofjmfbnaaDoor.Eng
section
variable {g : List Nd}
theorem Loop_eq (hs : ∀ n ∈ g, szNd n) : (∃ f : Int, f ≠ 0 ∧ Q24.f g = some ([], (false, f)) ∧ Q1m.f g = some ([], f)) ∨
  (Right g ∧ ((∃ L, Ring g L ∧ Q24.f g = some (L.map (labN g), (true, 0)) ∧ Q1m.f g = some ([], 17)) ∨ (Q24.f g = some ([], (false, 0)) ∧ ∃ L, Q1m.f g = some (L, 0)))) := by
 unfold Q24.f Q1m.f Q14.f
 rcases Z95 hs with ⟨f, h1, h2⟩ | ⟨h, h2⟩
 ·rw [h2]
  simp only [ob_s, Z15, Z2]
  simp only [if_neg h1, ob_s]
  exact .inl ⟨f, h1, rfl, by simp only [if_neg h1]⟩
 ·rw [h2]
  have hgl := h.len
  simp only [ob_s, Z15, Z2, if_true]
  refine .inr ⟨h, ?_⟩
  have hn := loopNet h g.length 0 (by omega) (by omega)
  rw [show ((0 : Nat) : Int) = 0 from rfl] at hn
  have hloop : ∀ r, Qa.l0 (net g) (g.length : Int) 0 = some r → Qa.f (net g) = Z2k r (fun a22 => (some a22)) (fun b23 => (some ([] : List Int))) := fun r hr => by
   unfold Qa.f
   simp only [Option.isSome_some, Option.getD_some, Z82, hr, ob_s]
  rcases hn with ⟨L, l1, l2⟩ | ⟨l1, l2⟩
  ·left
   have hll := Z3q (n := g.length) (L := L) (by
    rw [List.Nodup, List.pairwise_iff_getElem]
    exact fun i j hi hj hij => l1.nodup i j hj hij) l1.lt
   refine ⟨L, l1, ?_, ?_⟩
   ·rw [hloop _ l2, Za2, ob_s, Z1z g _ _ (by omega) hgl l1.lt, ob_s]
    have := l1.ne
    rw [List.length_map, decide_eq_true (by omega)]
   ·rcases Z59 h with ⟨R, r1, r2, r3⟩ | ⟨O, r1, r2, r3⟩
    ·rw [r3]; rfl
    ·exfalso
     have hne := l1.ne
     have hway : ∀ (i : Nat) (hi : i < L.length), Go.Proofs.YtafalbofjmfbnaaDoor.Eng.Way (Ed g) L[0] L[i] i := fun i => by
      induction i with
      | zero => exact fun hi => .nil _
      | succ i ih =>
       intro hi
       have := l1.ed i (by omega)
       rw [dif_pos hi] at this
       exact .snoc (ih (by omega)) this
     have h1 := hway (L.length - 1) (by omega)
     have h2 := l1.ed (L.length - 1) (by omega)
     rw [dif_neg (by omega)] at h2
     exact r1.noloop h r2 L[0] _ (l1.lt _ (List.getElem_mem hne)) (.snoc h1 h2)
  ·right
   refine ⟨?_, ?_⟩
   ·rw [hloop _ l1, Z23, ob_s]
    have := Z1z g (Zz g) (Zf g) (L := []) (by simp) hgl (fun x hx => by cases hx)
    have this' : Qg.f (some (g, (Zz g, Zf g))) [] = some [] := this
    rw [this', ob_s]
    rfl
   ·rcases Z59 h with ⟨R, r1, r2, r3⟩ | ⟨O, r1, r2, r3⟩
    ·exfalso
     obtain ⟨x, m, hx, hw⟩ := loop_of R r1 r2
     obtain ⟨k, he, hw'⟩ := hw.head
     exact l2 x (Nat.zero_le _) he.1 k m he hw'
    ·rw [r3]
     simp only [ob_s, cb_t, if_true]
     rw [Z1z g _ _ (by omega) hgl r1.lt, ob_s]
     exact ⟨_, rfl⟩
end
end Go.Proofs.YtafalbofjmfbnaaDoor
set_option linter.unusedVariables false
set_option linter.unusedSimpArgs false
namespace Go.Proofs.YtafalbofjmfbnaaDoor
open Go Go.Proofs.YtafalbofjmfbnaaDoor.Eng
abbrev MB : Type := List (ByteArray × Bool)
def hasM (l : List ByteArray) (acc : MB) : MB := l.foldl (fun a p => mset p true a) acc
theorem Zgg {l : List ByteArray} (hl : l.length ≤ 1000) : ∀ (n k : Nat) (acc : MB), l.length - k = n →
  ((∃ p ∈ l.drop k, Z1q p = false) ∧ ∃ z, Q7.l0 l (l.length : Int) (k : Int) acc = some (.inl (3, z))) ∨
  ((∀ p ∈ l.drop k, Z1q p = true) ∧ Q7.l0 l (l.length : Int) (k : Int) acc = some (.inr (hasM (l.drop k) acc))) := by
 intro n
 induction n with
 | zero =>
  intro k acc hk
  right
  rw [List.drop_eq_nil_of_le (by omega)]
  refine ⟨fun p hp => (by cases hp), Z1 ?_⟩
  simp only [Q7.s0, Z2]
  rw [if_neg (by omega)]
  rfl
 | succ n ih =>
  intro k acc hk
  have hlt : k < l.length := by omega
  have e : ((k : Int) + 1) = ((k + 1 : Nat) : Int) := by omega
  rw [List.drop_eq_getElem_cons hlt]
  cases hp : Z1q l[k] with
  | false =>
   refine .inl ⟨⟨l[k], List.mem_cons_self .., hp⟩, acc, Z1 ?_⟩
   simp only [Q7.s0]
   rw [decide_eq_true (by omega), cb_t, Z0 ⟨by omega, by omega⟩, Zj hlt]
   simp only [Z3v, hp, ob_s, Bool.not_false, cb_t]
  | true =>
   have hs : Q7.s0 l (l.length : Int) (k : Int) acc = some (.inl (((k + 1 : Nat) : Int), mset l[k] true acc)) := by
    simp only [Q7.s0]
    rw [decide_eq_true (by omega), cb_t, Z0 ⟨by omega, by omega⟩, Zj hlt]
    simp only [Z3v, hp, ob_s, Bool.not_true, cb_f]
    rw [Zd (by omega) (by omega), e]
   rcases ih (k + 1) (mset l[k] true acc) (by omega) with ⟨⟨p, h1, h2⟩, z, h3⟩ | ⟨h1, h3⟩
   ·exact .inl ⟨⟨p, List.mem_cons_of_mem _ h1, h2⟩, z, (Z3 hs).trans h3⟩
   ·refine .inr ⟨fun p h => ?_, (Z3 hs).trans h3⟩
    rcases List.mem_cons.1 h with rfl | h
    ·exact hp
    ·exact h1 p h
def anyM (us : List ByteArray) (m : MB) : Bool := us.any fun u => Option.getD (mget u m) false
theorem idxLoop {us : List ByteArray} (hu : us.length ≤ 1000) (m : MB) : ∀ (n k : Nat), us.length - k = n →
  ∃ r, Q6.l0 us m (us.length : Int) (k : Int) = some r ∧ ((r = .inr () ∧ anyM (us.drop k) m = false) ∨ ∃ j : Nat, r = .inl (j : Int) ∧ anyM (us.drop k) m = true) := by
 intro n
 induction n with
 | zero =>
  intro k hk
  refine ⟨.inr (), Z1 ?_, .inl ⟨rfl, ?_⟩⟩
  ·simp only [Q6.s0, Z2]
   rw [if_neg (by omega)]
  ·rw [List.drop_eq_nil_of_le (by omega)]; rfl
 | succ n ih =>
  intro k hk
  have hlt : k < us.length := by omega
  have e : ((k : Int) + 1) = ((k + 1 : Nat) : Int) := by omega
  obtain ⟨r, h1, h2⟩ := ih (k + 1) (by omega)
  rw [List.drop_eq_getElem_cons hlt]
  have e1 : Q1k.f us[k] m = some (Option.getD (mget us[k] m) false) := rfl
  have e2 : anyM (us[k] :: us.drop (k + 1)) m = (Option.getD (mget us[k] m) false || anyM (us.drop (k + 1)) m) := rfl
  rw [e2]
  cases hb : Option.getD (mget us[k] m) false with
  | true =>
   refine ⟨.inl (k : Int), Z1 ?_, .inr ⟨k, rfl, rfl⟩⟩
   simp only [Q6.s0]
   rw [decide_eq_true (by omega), cb_t, Z0 ⟨by omega, by omega⟩, Zj hlt]
   simp only [e1, hb, ob_s, cb_t]
  | false =>
   refine ⟨r, (Z3 ?_).trans h1, ?_⟩
   ·simp only [Q6.s0]
    rw [decide_eq_true (by omega), cb_t, Z0 ⟨by omega, by omega⟩, Zj hlt]
    simp only [e1, hb, ob_s, cb_f]
    rw [Zd (by omega) (by omega), e]
   ·simpa using h2
theorem contF {us : List ByteArray} (hu : us.length ≤ 1000) (m : MB) : Qk.f us m = some (anyM us m) := by
 obtain ⟨r, h1, h2⟩ := idxLoop hu m _ 0 rfl
 rw [show ((0 : Nat) : Int) = 0 from rfl] at h1
 rw [List.drop_zero] at h2
 unfold Qk.f Q6.f
 simp only [h1, ob_s]
 rcases h2 with ⟨rfl, h3⟩ | ⟨j, rfl, h3⟩
 ·rw [h3]; rfl
 ·rw [h3]
  show some (decide ((0 : Int) ≤ (j : Int))) = _
  rw [decide_eq_true (by omega)]
section
variable {g : List Nd}
def Sf (g : List Nd) (m : MB) (n : Nat) : List Nat := (List.range n).filter fun i => anyM (g.getD i ND0).2.2.2.1 m
theorem Sf_succ (g : List Nd) (m : MB) (n : Nat) : Sf g m (n + 1) = Sf g m n ++ (if anyM (g.getD n ND0).2.2.2.1 m then [n] else []) := by
 unfold Sf
 rw [List.range_succ, List.filter_append]
 congr 1
 cases h : anyM (g.getD n ND0).2.2.2.1 m with
 | true => simp only [List.filter_cons, h]; rfl
 | false => simp only [List.filter_cons, h]; rfl
theorem Zja (g : List Nd) (m : MB) (n : Nat) : (Sf g m n).length ≤ n := by
 unfold Sf
 exact Nat.le_trans (List.length_filter_le _ _) (by simp)
theorem mem_Sf {m : MB} {n k : Nat} : k ∈ Sf g m n ↔ k < n ∧ anyM (g.getD k ND0).2.2.2.1 m = true := by
 unfold Sf
 simp [List.mem_filter, List.mem_range]
theorem Zib (hl : g.length ≤ 1000) (hf : ∀ n ∈ g, n.2.2.2.1.length ≤ 1000) (m : MB) : ∀ (n k : Nat), g.length - k = n → k ≤ g.length →
  Q7.l1 g (g.length : Int) (k : Int) m (ints (Sf g m k)) = some (m, ints (Sf g m g.length)) := by
 intro n
 induction n with
 | zero =>
  intro k hk hkl
  have e : k = g.length := by omega
  subst e
  refine Z1 ?_
  simp only [Q7.s1, Z2]
  rw [if_neg (by omega)]
 | succ n ih =>
  intro k hk hkl
  have hlt : k < g.length := by omega
  have e : ((k : Int) + 1) = ((k + 1 : Nat) : Int) := by omega
  have hS := Zja g m k
  refine (Z3 ?_).trans (ih (k + 1) (by omega) (by omega))
  have hg : g.getD k ND0 = g[k] := by simp [List.getD, hlt]
  rw [Sf_succ, hg]
  simp only [Q7.s1]
  rw [decide_eq_true (by omega), cb_t, Z0 ⟨by omega, by omega⟩, Zj hlt]
  simp only [contF (hf _ (List.getElem_mem hlt)) m, ob_s]
  cases hb : anyM g[k].2.2.2.1 m with
  | true =>
   rw [cb_t, Z0 (by simp only [List.length_map, List.length_cons, List.length_nil]; omega), Zd (by omega) (by omega), e]
   simp [ints]
  | false =>
   rw [cb_f, Zd (by omega) (by omega), e]
   simp
structure TreeOk (g : List Nd) : Prop where
 right : Right g
 files : ∀ n ∈ g, n.2.2.2.1.length ≤ 1000
 tree : ∃ L, Q14.f g = some (net g, (L, 0))
theorem Ze6 (hs : ∀ n ∈ g, szNd n) : (∃ f : Int, f ≠ 0 ∧ Q14.f g = some (none, ([], f))) ∨ TreeOk g := by
 rcases Zci hs with h | ⟨h, L, _, _, h2⟩
 ·exact .inl h
 ·right
  refine ⟨h, fun n hn => ?_, ints L, h2⟩
  rcases Zdk hs with ⟨⟨f, h3, h4⟩, _⟩ | ⟨_, h3⟩
  ·exfalso
   unfold Q14.f at h2
   rw [h4] at h2
   simp only [ob_s, Z15, Z2, if_neg h3] at h2
   have := congrArg (fun x => Option.map (fun y => y.2.2) x) h2
   exact h3 (by simpa using this)
  ·obtain ⟨f, h4, h5⟩ := Z4n (hs n hn)
   have h6 := h3 n hn
   rw [h4] at h6
   exact (h5 (Option.some.inj h6)).2.2.2.2
theorem Zd9 (h : TreeOk g) {l : List ByteArray} (hl : l.length ≤ 1000) (hp : ∀ p ∈ l, Z1q p = true) :
  ∃ d : List Int, Far g.length (Dir g true) (· ∈ Sf g (hasM l []) g.length) (fun k => d.getD k 0) ∧ Q7.f g l = some ((Wi g.length d (-1)).map (labN g), 0) := by
 obtain ⟨L, ht⟩ := h.tree
 have hgl := h.right.len
 have h1 : Q7.l0 l (l.length : Int) 0 [] = some (.inr (hasM l [])) := by
  rcases Zgg hl _ 0 [] rfl with ⟨⟨p, h1, h2⟩, _⟩ | ⟨_, h2⟩
  ·rw [List.drop_zero] at h1
   rw [hp p h1] at h2; cases h2
  ·rw [List.drop_zero] at h2; exact h2
 have h2 : Q7.l1 g (g.length : Int) 0 (hasM l []) [] = some (hasM l [], ints (Sf g (hasM l []) g.length)) := Zib hgl h.files (hasM l []) _ 0 rfl (Nat.zero_le _)
 have hS : ∀ s ∈ Sf g (hasM l []) g.length, s < g.length := fun s hs => (mem_Sf.1 hs).1
 have hSl := Zja g (hasM l []) g.length
 obtain ⟨d, d1, d2, d3, _⟩ := Zag h.right true hS (by omega) (-1)
 refine ⟨d, d1, ?_⟩
 have d2' : Qq.f (Zf g) (ints (Sf g (hasM l []) g.length)) (-1) = some (ints (Wi g.length d (-1))) := d2
 have hW := Zc8 g.length d (-1)
 have h3 := Z1z g (Zz g) (Zf g) (L := Wi g.length d (-1)) (by omega) hgl (fun x hx => (Zj1.1 hx).1)
 have h3' : Qb.f (net g) (ints (Wi g.length d (-1))) = some ((Wi g.length d (-1)).map (labN g)) := h3
 unfold Q7.f
 rw [ht]
 simp only [ob_s, decide_true, Bool.not_true, cb_f]
 rw [decide_eq_false (by omega), cb_f]
 simp only [h1, h2, ob_s, Z23, Option.isSome_some, Option.getD_some, Z82, d2', h3']
theorem Z84 (hs : ∀ n ∈ g, szNd n) (l : List ByteArray) : (∃ f : Int, f ≠ 0 ∧ Q7.f g l = some ([], f)) ∨ (TreeOk g ∧ l.length ≤ 1000 ∧ ∀ p ∈ l, Z1q p = true) := by
 rcases Ze6 hs with ⟨f, h1, h2⟩ | h
 ·left
  refine ⟨f, h1, ?_⟩
  unfold Q7.f
  rw [h2]
  simp only [ob_s, decide_eq_false h1]
  rfl
 ·obtain ⟨L, ht⟩ := h.tree
  by_cases hl : l.length ≤ 1000
  ·rcases Zgg hl _ 0 [] rfl with ⟨_, z, h2⟩ | ⟨h1, _⟩
   ·left
    refine ⟨3, by decide, ?_⟩
    have h2 : Q7.l0 l (l.length : Int) 0 [] = some (.inl (3, z)) := h2
    unfold Q7.f
    rw [ht]
    simp only [ob_s, decide_true, Bool.not_true, cb_f]
    rw [decide_eq_false (by omega), cb_f]
    simp only [h2, ob_s]
    rfl
   ·rw [List.drop_zero] at h1
    exact .inr ⟨h, hl, h1⟩
  ·left
   refine ⟨2, by decide, ?_⟩
   unfold Q7.f
   rw [ht]
   simp only [ob_s, decide_true, Bool.not_true, cb_f]
   rw [decide_eq_true (by omega), cb_t]
end
end Go.Proofs.YtafalbofjmfbnaaDoor
set_option linter.unusedVariables false
set_option linter.unusedSimpArgs false
set_option maxRecDepth 10000
namespace Go.Proofs.YtafalbofjmfbnaaDoor
open Go Go.Proofs.YtafalbofjmfbnaaDoor.Eng
theorem spoilLoop : ∀ (n k : Nat) (o : List ByteArray), o.length - k = n → o.length ≤ 1000000000 → (∀ j, k ≤ j → ∀ h : j < o.length, o[j].size ≤ 140737488355328) → ∃ o', Qy.l0 (k : Int) o = some o' ∧ o'.length = o.length := by
 intro n
 induction n with
 | zero =>
  intro k o hk hl hs
  refine ⟨o, Z1 ?_, rfl⟩
  simp only [Qy.s0, Z2]
  rw [if_neg (by omega)]
 | succ n ih =>
  intro k o hk hl hs
  have hlt : k < o.length := by omega
  have hsz := hs k (Nat.le_refl _) hlt
  have hb : Q2p.size = 1 := rfl
  obtain ⟨o', h1, h2⟩ := ih (k + 1) (o.set k (o[k] ++ Q2p)) (by rw [List.length_set]; omega) (by rw [List.length_set]; exact hl) (fun j hj h => by
   rw [List.length_set] at h
   rw [List.getElem_set_ne (by omega)]
   exact hs j (by omega) h)
  refine ⟨o', (Z3 (x' := (((k + 1 : Nat) : Int), o.set k (o[k] ++ Q2p))) ?_).trans h1, by rw [h2, List.length_set]⟩
  have hg : List.getD o k ByteArray.empty = o[k] := by simp [List.getD, hlt]
  simp only [Qy.s0, Z2, Int.toNat_natCast, hg]
  rw [if_pos (by omega), Z0 ⟨by omega, by omega⟩, Z0 hlt, Z0 (by omega), Z0 ⟨by omega, by omega⟩, Z0 hlt, Zd (by omega) (by omega)]
  rfl
theorem Z35 {o : List ByteArray} (hl : o.length ≤ 1000000000) (hs : ∀ x ∈ o, x.size ≤ 140737488355328) : ∃ o', Qy.f o = some o' ∧ o'.length = o.length := by
 obtain ⟨o', h1, h2⟩ := spoilLoop _ 0 o rfl hl (fun j _ h => hs _ (List.getElem_mem h))
 rw [show ((0 : Nat) : Int) = 0 from rfl] at h1
 refine ⟨o', ?_, h2⟩
 unfold Qy.f
 rw [h1, ob_s]
def Mild (o : List ByteArray) : Prop := o.length ≤ 1000000000 ∧ ∀ x ∈ o, x.size ≤ 140737488355328
theorem Mild.nil : Mild [] := ⟨by simp, fun x h => by cases h⟩
section
variable {g : List Nd}
theorem Zi8 (hs : ∀ n ∈ g, szNd n) (k : Nat) : (labN g k).size ≤ 140737488355328 := by
 have hB : BIG = 140737488355328 := rfl
 unfold labN
 by_cases h : k < g.length
 ·have e : g.getD k ND0 = g[k] := by simp [List.getD, h]
  rw [e]
  exact (hs _ (List.getElem_mem h)).1
 ·have e : g.getD k ND0 = ND0 := by simp [List.getD, List.getElem?_eq_none (show g.length ≤ k by omega)]
  rw [e]
  have : ND0.1.size = 0 := rfl
  omega
theorem Mild.labs (hs : ∀ n ∈ g, szNd n) {L : List Nat} (hl : L.length ≤ 1000000000) : Mild (L.map (labN g)) :=
 ⟨by rw [List.length_map]; exact hl, fun x hx => by
  obtain ⟨k, _, rfl⟩ := List.mem_map.1 hx
  exact Zi8 hs k⟩
theorem Z6c (hs : ∀ n ∈ g, szNd n) (a : List ByteArray) (m : Int) (up : Bool) : ∃ r, Q1e.f g a m up = some r ∧ Mild r.1 := by
 have e : Q1e.f g a m up = Q1u.f g a m up := rfl
 rw [e]
 rcases Zef hs a m up with ⟨f, _, h2⟩ | ⟨h, _, _, S, _, _, _, _, d, _, h2⟩
 ·exact ⟨_, h2, .nil⟩
 ·have := Zc8 g.length d m
  have := h.len
  exact ⟨_, h2, .labs hs (by omega)⟩
theorem Zel (hs : ∀ n ∈ g, szNd n) (a : List ByteArray) (m : Int) : ∃ r, Q1r.f g a m = some r ∧ Mild r.1 := by
 obtain ⟨r, h1, h2⟩ := Z6c hs a m false
 unfold Q1r.f
 rw [h1, ob_s]
 exact ⟨_, rfl, h2⟩
theorem Ze5 (hs : ∀ n ∈ g, szNd n) (a : List ByteArray) (m : Int) : ∃ r, Q1s.f g a m = some r ∧ Mild r.1 := by
 obtain ⟨r, h1, h2⟩ := Z6c hs a m true
 unfold Q1s.f
 rw [h1, ob_s]
 exact ⟨_, rfl, h2⟩
theorem Zad (hs : ∀ n ∈ g, szNd n) (l : List ByteArray) : ∃ r, Q7.f g l = some r ∧ Mild r.1 := by
 rcases Z84 hs l with ⟨f, _, h2⟩ | ⟨h, hl, hp⟩
 ·exact ⟨_, h2, .nil⟩
 ·obtain ⟨d, _, h2⟩ := Zd9 h hl hp
  have := Zc8 g.length d (-1)
  have := h.right.len
  exact ⟨_, h2, .labs hs (by omega)⟩
theorem Zeg (hs : ∀ n ∈ g, szNd n) : ∃ r, Q1q.f g = some r ∧ Mild r.1 := by
 unfold Q1q.f
 rcases Zci hs with ⟨f, h1, h2⟩ | ⟨h, L, l1, l2, h2⟩
 ·rw [h2]
  simp only [ob_s, Z15, Z2, if_neg h1]
  exact ⟨_, rfl, .nil⟩
 ·have hgl := h.len
  have hlab := Z1z g (Zz g) (Zf g) (L := L) (by omega) hgl l1.lt
  have e : Qb.f (net g) (ints L) = Qg.f (net g) (ints L) := rfl
  rw [h2]
  simp only [ob_s, Z15, Z2, if_true, e]
  have hlab' : Qg.f (net g) (ints L) = some (L.map (labN g)) := hlab
  rw [hlab', ob_s]
  exact ⟨_, rfl, .labs hs (by omega)⟩
theorem Zfw (hs : ∀ n ∈ g, szNd n) : ∃ r, Q1x.f g = some r ∧ Mild r.1 := by
 have e : Q1x.f g = Q24.f g := rfl
 rw [e]
 rcases Loop_eq hs with ⟨f, _, h2, _⟩ | ⟨h, ⟨L, l1, h2, _⟩ | ⟨h2, _⟩⟩
 ·exact ⟨_, h2, .nil⟩
 ·have hll := Z3q (n := g.length) (L := L) (by
   rw [List.Nodup, List.pairwise_iff_getElem]
   exact fun i j hi hj hij => l1.nodup i j hj hij) l1.lt
  have := h.len
  exact ⟨_, h2, .labs hs (by omega)⟩
 ·exact ⟨_, h2, .nil⟩
theorem Zhb (hs : ∀ n ∈ g, szNd n) (a b : ByteArray) : (∃ r, Q1z.f g a b = some r ∧ Mild r.1) ∧ ∃ r, Q1j.f g a b = some r ∧ Mild r.1 := by
 rcases two_eq hs a b with ⟨f, h1, h2⟩ | ⟨h, O, x, y, hx, hy, ea, eb, ht, h2⟩
 ·constructor
  ·unfold Q1z.f
   rw [h2]
   simp only [ob_s, Z15, Z2, if_neg h1]
   exact ⟨_, rfl, .nil⟩
  ·unfold Q1j.f
   rw [h2]
   simp only [ob_s, Z15, Z2, if_neg h1]
   exact ⟨_, rfl, .nil⟩
 ·have hgl := h.len
  obtain ⟨d0, a1, a2, a3, a4⟩ := Z55 h false (S := [x]) (fun s hs => by rw [List.mem_singleton.1 hs]; exact hx) (by simp)
  obtain ⟨d, b1, b2, b3, b4⟩ := Z55 h true (S := [y]) (fun s hs => by rw [List.mem_singleton.1 hs]; exact hy) (by simp)
  have a1' : Q2.f (Zz g) [(x : Int)] = some d0 := a1
  have b1' : Q2.f (Zf g) [(y : Int)] = some d := b1
  have hr := d_rd (d := d0) (k := y) (by omega)
  have lab : ∀ L : List Nat, L.length ≤ 100000 → (∀ x ∈ L, x < g.length) → Qb.f (net g) (ints L) = some (L.map (labN g)) := fun L h1 h2 => Z1z g (Zz g) (Zf g) h1 hgl h2
  constructor
  ·unfold Q1z.f
   rw [h2]
   simp only [ob_s, Z15, Z2, if_true, Option.isSome_some, Option.getD_some, Z82, a1', hr]
   rw [Z0 (by omega)]
   by_cases hno : d0.getD y 0 < 0
   ·rw [if_pos hno]
    exact ⟨_, rfl, .nil⟩
   ·rw [if_neg hno]
    have ft : 0 ≤ d.getD x 0 ∧ d.getD x 0 ≤ d0.getD y 0 := Zie (d := fun k => d0.getD k 0) (d' := fun k => d.getD k 0) h hx hy a3 b3 (by omega)
    obtain ⟨W, w1, w2⟩ := Ziw h hx hy b1 b2 b3 b4 ft.1
    have hwl := w2.len
    have hxl := b4 x hx
    have l1 := lab W (by omega) w2.lt
    rw [w1, ob_s, l1, ob_s]
    exact ⟨_, rfl, .labs hs (by omega)⟩
  ·have hl := beLoop (d := d0) (e := d) (m := g.length) a2 b2 hgl g.length 0 (by omega) (by omega)
   have hl' : Qm.l0 d0 d (g.length : Int) 0 [] = some (ints (Be g.length d0 d)) := hl
   have hbl := Zjc g.length d0 d
   have l1 := lab (Be g.length d0 d) (by omega) (fun x hx => (mem_Be.1 hx).1)
   unfold Q1j.f Qm.f
   rw [h2]
   simp only [ob_s, Z15, Z2, if_true, Option.isSome_some, Option.getD_some, Z82, a1', b1', hl', l1]
   exact ⟨_, rfl, .labs hs (by omega)⟩
theorem Zbw {l : List ByteArray} (h : l.length * 16 ≤ 140737488355328) : Qx.f l = some l ∧ Qp.f l = some l := by
 have go : Qp.f l = some l := by
  unfold Qp.f
  by_cases he : l = []
  ·subst he
   rw [Z0 (by simp)]
   exact nq_same
  ·unfold nq
   rw [if_pos he, Z0 (by simp; omega)]
   rfl
 exact ⟨go, go⟩
def Zea (n : Nd) : Prop := n.2.2.1.length * 16 ≤ 140737488355328 ∧ n.2.2.2.1.length * 16 ≤ 140737488355328 ∧ n.2.2.2.2.1.length * 16 ≤ 140737488355328
theorem Zil (hl : g.length * 112 ≤ 140737488355328) (hn : ∀ n ∈ g, Zea n) : ∀ (n k : Nat), g.length - k = n → k ≤ g.length → Qr.l0 g (k : Int) (g.take k) = some g := by
 intro n
 induction n with
 | zero =>
  intro k hk hkl
  have e : k = g.length := by omega
  subst e
  refine Z1 ?_
  simp only [Qr.s0, Z2]
  rw [if_neg (by omega), List.take_length]
 | succ n ih =>
  intro k hk hkl
  have hlt : k < g.length := by omega
  obtain ⟨a1, a2, a3⟩ := hn _ (List.getElem_mem hlt)
  refine (Z3 (x' := (((k + 1 : Nat) : Int), g.take (k + 1))) ?_).trans (ih (k + 1) (by omega) (by omega))
  simp only [Qr.s0, Z2, Zj hlt, (Zbw a1).1, (Zbw a2).1, (Zbw a3).1, ob_s, List.length_take, List.length_cons, List.length_nil]
  rw [if_pos (by omega), Z0 ⟨by omega, by omega⟩, Z0 (by omega), Zd (by omega) (by omega), List.take_add_one, List.getElem?_eq_getElem hlt]
  rfl
theorem copyG (hl : g.length * 112 ≤ 140737488355328) (hn : ∀ n ∈ g, Zea n) : Qr.f g = some g := by
 have h := Zil hl hn _ 0 rfl (Nat.zero_le _)
 rw [show ((0 : Nat) : Int) = 0 from rfl, List.take_zero] at h
 unfold Qr.f
 rw [h, ob_s]
theorem Zbt {l : List ByteArray} (hl : l.length * 16 ≤ 140737488355328) : Q4.f l l = some true := by
 have go : ∀ (n k : Nat), l.length - k = n → Q4.l0 l l (l.length : Int) (k : Int) = some (.inr ()) := by
  intro n
  induction n with
  | zero =>
   intro k hn
   refine Z1 ?_
   simp only [Q4.s0, Z2]
   rw [if_neg (by omega)]
  | succ n ih =>
   intro k hn
   have hlt : k < l.length := by omega
   refine (Z3 ?_).trans (ih (k + 1) (by omega))
   simp only [Q4.s0, Z2, Zj hlt, Z15, if_true]
   rw [if_pos (by omega), Z0 (by omega), Z0 (by omega), Zd (by omega) (by omega)]
   rfl
 have h := go l.length 0 (by omega)
 rw [show ((0 : Nat) : Int) = 0 from rfl] at h
 unfold Q4.f
 simp only [Z15, Z2, if_true, h, ob_s, Z23]
theorem sameG (hl : g.length * 112 ≤ 140737488355328) (hn : ∀ n ∈ g, Zea n) : Q10.f g g = some true := by
 have go : ∀ (n k : Nat), g.length - k = n → Q10.l0 g g (k : Int) = some (.inr ()) := by
  intro n
  induction n with
  | zero =>
   intro k hk
   refine Z1 ?_
   simp only [Q10.s0, Z2]
   rw [if_neg (by omega)]
  | succ n ih =>
   intro k hk
   have hlt : k < g.length := by omega
   obtain ⟨a1, a2, a3⟩ := hn _ (List.getElem_mem hlt)
   refine (Z3 (x' := ((k + 1 : Nat) : Int)) ?_).trans (ih (k + 1) (by omega))
   simp only [Q10.s0, Z2, Zj hlt, mix_eq, Z40, Zbt a1, Zbt a2, Zbt a3, ob_s, Z15, if_true]
   rw [if_pos (by omega), Z0 ⟨by omega, by omega⟩, Z0 ⟨by omega, by omega⟩]
   simp only [cb_t, cb_f, Bool.not_true, if_true]
   rw [Zd (by omega) (by omega)]
   rfl
 have h := go _ 0 rfl
 rw [show ((0 : Nat) : Int) = 0 from rfl] at h
 unfold Q10.f
 simp only [decide_true, Bool.not_true, cb_f, h, ob_s, Z23]
theorem Zg9 (hs : ∀ n ∈ g, szNd n) (hn : ∀ n ∈ g, Zea n) {i : Nat} (hi : i < g.length) (c : List Nd) (r1 r2 r3 r4 r5 r6 r7 : List ByteArray) : ∀ (n k : Nat), g[i].2.2.1.length - k = n →
  Q5.l1 g (i : Int) (k : Int) c r1 r2 r3 r4 r5 r6 r7 = some (c, r1, r2, r3, r4, r5, r6, r7) := by
 obtain ⟨a1, _, _⟩ := hn _ (List.getElem_mem hi)
 intro n
 induction n with
 | zero =>
  intro k hk
  refine Z1 ?_
  simp only [Q5.s1, Z2, Zj hi]
  rw [Z0 ⟨by omega, by omega⟩, if_neg (by omega)]
 | succ n ih =>
  intro k hk
  have hlt : k < g[i].2.2.1.length := by omega
  obtain ⟨⟨x, x1, x2⟩, y, y1, y2⟩ := Zhb hs g[i].1 g[i].2.2.1[k]
  obtain ⟨x', x3, x4⟩ := Z35 x2.1 x2.2
  obtain ⟨y', y3, y4⟩ := Z35 y2.1 y2.2
  have hck : (0 : Int) ≤ (i : Int) ∧ (i : Int) < ((List.length g : Nat) : Int) := ⟨by omega, by omega⟩
  have hck2 : (0 : Int) ≤ (k : Int) ∧ (k : Int) < ((List.length g[i].2.2.1 : Nat) : Int) := ⟨by omega, by omega⟩
  refine (Z3 (x' := (((k + 1 : Nat) : Int), c, r1, r2, r3, r4, r5, r6, r7)) ?_).trans (ih (k + 1) (by omega))
  simp only [Q5.s1, Z2, Zj hi, Z0 hck, Z0 hck2, Zj hlt, x1, x3, y1, y3, ob_s, Z0 x4, Z0 y4]
  rw [if_pos (by omega), Zd (by omega) (by omega)]
  rfl
theorem Zfn (hl : g.length * 112 ≤ 140737488355328) (hs : ∀ n ∈ g, szNd n) (hn : ∀ n ∈ g, Zea n) (c : List Nd) (r1 r2 r3 r4 r5 r6 r7 : List ByteArray) : ∀ (n k : Nat), g.length - k = n →
  Q5.l0 g (k : Int) c r1 r2 r3 r4 r5 r6 r7 = some (c, r1, r2, r3, r4, r5, r6, r7) := by
 intro n
 induction n with
 | zero =>
  intro k hk
  refine Z1 ?_
  simp only [Q5.s0, Z2]
  rw [if_neg (by omega)]
 | succ n ih =>
  intro k hk
  have hlt : k < g.length := by omega
  have h1 := Zg9 hs hn hlt c r1 r2 r3 r4 r5 r6 r7 _ 0 rfl
  rw [show ((0 : Nat) : Int) = 0 from rfl] at h1
  refine (Z3 (x' := (((k + 1 : Nat) : Int), c, r1, r2, r3, r4, r5, r6, r7)) ?_).trans (ih (k + 1) (by omega))
  simp only [Q5.s0, Z2, h1, ob_s]
  rw [if_pos (by omega), Zd (by omega) (by omega)]
  rfl
theorem law_RN (hl : g.length * 112 ≤ 140737488355328) (hs : ∀ n ∈ g, szNd n) (hn : ∀ n ∈ g, Zea n) {a : List ByteArray} (ha : a.length * 16 ≤ 140737488355328) (m : Int) {b : List ByteArray} (hb : b.length * 16 ≤ 140737488355328) : Q5.f g a m b = some true := by
 obtain ⟨x1, a1, b1⟩ := Zeg hs
 obtain ⟨y1, c1, d1⟩ := Z35 b1.1 b1.2
 obtain ⟨x2, a2, b2⟩ := Zel hs a m
 obtain ⟨y2, c2, d2⟩ := Z35 b2.1 b2.2
 obtain ⟨x3, a3, b3⟩ := Ze5 hs a m
 obtain ⟨y3, c3, d3⟩ := Z35 b3.1 b3.2
 obtain ⟨x4, a4, b4⟩ := Zad hs b
 obtain ⟨y4, c4, d4⟩ := Z35 b4.1 b4.2
 obtain ⟨x5, a5, b5⟩ := Zfw hs
 obtain ⟨y5, c5, d5⟩ := Z35 b5.1 b5.2
 have ho := Zfn hl hs hn g a b y1 y2 y3 y4 y5 _ 0 rfl
 rw [show ((0 : Nat) : Int) = 0 from rfl] at ho
 unfold Q5.f
 simp only [copyG hl hn, (Zbw ha).2, (Zbw hb).2, a1, a2, a3, a4, a5, c1, c2, c3, c4, c5, ob_s, Z0 d1, Z0 d2, Z0 d3, Z0 d4, Z0 d5, ho, sameG hl hn, Zbt ha, Zbt hb, cb_t, awake4]
end
theorem law_RN' (x : List Nd × (List ByteArray × (Int × List ByteArray))) (hx : InA T 6 [22,23,3,23] [.slice (.pair .str (.pair .str (.pair (.slice .str) (.pair (.slice .str) (.pair (.slice .str) (.int .i64)))))), .slice .str, .int .i64, .slice .str] x) : Q5.f x.1 x.2.1 x.2.2.1 x.2.2.2 = some true := by
 have hr : reachBytes ≤ BIG := by decide
 have hB : BIG = 140737488355328 := rfl
 have hr' : reachBytes ≤ 140737488355328 := by decide
 have h1 : List.length x.1 * 112 ≤ reachBytes := hx.1.1
 have h2 : List.length x.2.1 * 16 ≤ reachBytes := hx.2.1.1
 have h3 : List.length x.2.2.2 * 16 ≤ reachBytes := hx.2.2.2.1
 refine law_RN (by omega) (fun n hn => ?_) (fun n hn => ?_) (by omega) _ (by omega)
 ·have h := hx.1.2 n hn
  have g1 : n.1.size ≤ reachBytes := h.1
  have g3 := h.2.2.1.2
  have g4 := h.2.2.2.1.2
  have g5 := h.2.2.2.2.1.2
  exact ⟨Nat.le_trans g1 hr, fun y hy => Nat.le_trans (g3 y hy) hr, fun y hy => Nat.le_trans (g4 y hy) hr, fun y hy => Nat.le_trans (g5 y hy) hr⟩
 ·have h := hx.1.2 n hn
  have g3 : List.length n.2.2.1 * 16 ≤ reachBytes := h.2.2.1.1
  have g4 : List.length n.2.2.2.1 * 16 ≤ reachBytes := h.2.2.2.1.1
  have g5 : List.length n.2.2.2.2.1 * 16 ≤ reachBytes := h.2.2.2.2.1.1
  exact ⟨by omega, by omega, by omega⟩
end Go.Proofs.YtafalbofjmfbnaaDoor
