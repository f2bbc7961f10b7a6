/-
  The plain laws of frames and of feeding them, over the printed functions. No condition.
-/
import Derived.Test.YtcphmeggalaplaaDoorFun
import Derived.Sort.Walk0
import Derived.Test.YtcphmeggalaplaaDoorTypC
import Derived.Laws.RangeAny
set_option linter.unusedVariables false
set_option linter.unusedSimpArgs false
namespace Go.Proofs.YtcphmeggalaplaaDoor.Eng
section
variable {n : Nat} {E : Nat → Nat → Prop} {S : Nat → Prop} {d d' : Nat → Int}
end
end Go.Proofs.YtcphmeggalaplaaDoor.Eng
set_option linter.unusedVariables false
set_option linter.unusedSimpArgs false
namespace Go.Proofs.YtcphmeggalaplaaDoor
open Go Go.Proofs.YtcphmeggalaplaaDoor.Eng
abbrev Nd := ByteArray × (ByteArray × ((List ByteArray) × ((List ByteArray) × ((List ByteArray) × Int))))
def BIG : Nat := 140737488355328
theorem Z1s (s : ByteArray) : s.size = s.data.toList.length := by rw [ByteArray.size]; simp
theorem Zjx {s : ByteArray} {k : Nat} (h : k < s.data.toList.length) : bt s (k : Int) = s.data.toList[k] := by
 have h' : k < s.size := by rw [Z1s]; exact h
 unfold bt
 simp only [Int.toNat_natCast]
 rw [getElem?_pos s k h', Option.getD_some]
 rfl
theorem Zjg {s : ByteArray} (hs : s.size ≤ BIG) (p : UInt8 → Bool) (f : Int → Option (Int ⊕ (Bool ⊕ Unit))) (hend : ∀ k : Nat, s.data.toList.length ≤ k → f k = some (.inr (.inr ())))
  (hno : ∀ k : Nat, ∀ h : k < s.data.toList.length, p s.data.toList[k] = false → f k = some (.inr (.inl false))) (hyes : ∀ k : Nat, ∀ h : k < s.data.toList.length, p s.data.toList[k] = true → f k = some (.inl ((k : Int) + 1))) :
  ∀ (n k : Nat), s.data.toList.length - k = n → Zl f (k : Int) = some (if (s.data.toList.drop k).all p then .inr () else .inl false) := by
 intro n
 induction n with
 | zero =>
  intro k hn
  rw [List.drop_eq_nil_of_le (by omega)]
  exact Z1 (hend k (by omega))
 | succ n ih =>
  intro k hn
  have hlt : k < s.data.toList.length := by omega
  rw [List.drop_eq_getElem_cons hlt, List.all_cons]
  cases hp : p s.data.toList[k] with
  | false => exact Z1 (hno k hlt hp)
  | true =>
   rw [Bool.true_and]
   exact (Z4 (hyes k hlt hp)).trans (ih (k + 1) (by omega))
def Zbo (c : UInt8) : Bool := decide (97 ≤ c.toNat ∧ c.toNat ≤ 122) || decide (65 ≤ c.toNat ∧ c.toNat ≤ 90) || decide (48 ≤ c.toNat ∧ c.toNat ≤ 57) || decide (0 ≤ Lib.indexByte [46, 95, 45, 43] c)
theorem Zca (c : UInt8) : Q1x.f c = some (Zbo c) := by
 have hi : Q10.f Q23 c = some (Lib.indexByte [46, 95, 45, 43] c) := rfl
 unfold Q1x.f Zbo
 simp only [Z2, hi, ob_s]
 by_cases h1 : (97 : Int) ≤ ((UInt8.toNat c : Nat) : Int) <;> by_cases h2 : ((UInt8.toNat c : Nat) : Int) ≤ 122 <;> by_cases h3 : (65 : Int) ≤ ((UInt8.toNat c : Nat) : Int) <;> by_cases h4 : ((UInt8.toNat c : Nat) : Int) ≤ 90 <;>
  by_cases h5 : (48 : Int) ≤ ((UInt8.toNat c : Nat) : Int) <;> by_cases h6 : ((UInt8.toNat c : Nat) : Int) ≤ 57 <;> simp only [h1, h2, h3, h4, h5, h6, if_true, if_false] <;> congr 1 <;>
  (have g1 : decide (97 ≤ c.toNat ∧ c.toNat ≤ 122) = decide ((97 : Int) ≤ ((UInt8.toNat c : Nat) : Int) ∧ ((UInt8.toNat c : Nat) : Int) ≤ 122) := decide_eq_decide.2 (by omega)
   have g2 : decide (65 ≤ c.toNat ∧ c.toNat ≤ 90) = decide ((65 : Int) ≤ ((UInt8.toNat c : Nat) : Int) ∧ ((UInt8.toNat c : Nat) : Int) ≤ 90) := decide_eq_decide.2 (by omega)
   have g3 : decide (48 ≤ c.toNat ∧ c.toNat ≤ 57) = decide ((48 : Int) ≤ ((UInt8.toNat c : Nat) : Int) ∧ ((UInt8.toNat c : Nat) : Int) ≤ 57) := decide_eq_decide.2 (by omega)
   rw [g1, g2, g3]; simp [h1, h2, h3, h4, h5, h6])
def Z6b (s : ByteArray) : Bool := s.data.toList.all Zbo && (!decide (s = bs_) && (!decide (s = Q2k) && !decide (s = Q2j)))
theorem Zc9 {s : ByteArray} (hs : s.size ≤ BIG) : Q12.f s = some (Z6b s) := by
 have hb : BIG = 140737488355328 := rfl
 have hl := Z1s s
 have h := Zjg hs Zbo (fun x => Q12.s0 s (s.size : Int) x) (fun k hk => by
  simp only [Q12.s0, Z2]; rw [if_neg (by omega)]) (fun k hk hp => by
  simp only [Q12.s0, Z2, Zjx hk, Zca, hp, ob_s]; rw [if_pos (by omega), Z0 (by omega)]; rfl) (fun k hk hp => by
  simp only [Q12.s0, Z2, Zjx hk, Zca, hp, ob_s]; rw [if_pos (by omega), Z0 (by omega), Ze (by omega) (by omega)]; rfl) s.data.toList.length 0 (by omega)
 rw [List.drop_zero] at h
 unfold Q12.f Z6b
 show ob (Zl (fun x => Q12.s0 s (s.size : Int) x) ((0 : Nat) : Int)) _ = _
 rw [h]
 cases s.data.toList.all Zbo
 ·rfl
 ·simp only [if_true, ob_s, Z4z, Bool.true_and, Z5q, Z2]
  by_cases e1 : s = bs_
  ·rw [if_pos e1, decide_eq_true e1]; rfl
  ·rw [if_neg e1, decide_eq_false e1]
   by_cases e2 : s = Q2k
   ·rw [if_pos e2, decide_eq_true e2]; rfl
   ·rw [if_neg e2, decide_eq_false e2]; rfl
theorem indexByte_lt : ∀ (l : List UInt8) (c : UInt8), -1 ≤ Lib.indexByte l c ∧ Lib.indexByte l c < l.length
 | [], c => by simp [Lib.indexByte]
 | b :: l, c => by
  have h := indexByte_lt l c
  unfold Lib.indexByte
  split
  ·simp only [List.length_cons]; omega
  ·split
   ·simp only [List.length_cons]; omega
   ·rename_i h1
    have : ¬ Lib.indexByte l c = -1 := by simpa using h1
    simp only [List.length_cons]; omega
theorem Zh2 (s : ByteArray) : Q1q.f s Q2d = some (Lib.indexByte s.data.toList 47) := by
 show ob (ck _ _) _ = _
 rw [Z0 (by rfl)]; rfl
theorem index58 (s : ByteArray) : Q19.f s Q26 = some (Lib.indexByte s.data.toList 58) := by
 show ck _ _ = _
 rw [Z0 (by rfl)]; rfl
theorem Z13 (s : ByteArray) (a b : Nat) : (s.extract a b).size = min b s.size - a := by simp [ByteArray.size_extract]
theorem Zfy {n : Nat} (hn : n ≤ 1000000000000) : ∀ (m i : Nat) (s : ByteArray) (a : List ByteArray), n - i = m → i ≤ n → a.length = n + 1 → s.size ≤ BIG →
  ∃ (s' : ByteArray) (i' : Nat) (a' : List ByteArray), Qm.l0 Q2d 0 (n : Int) s (i : Int) a = some (s', (i' : Int), a') ∧ i' ≤ n ∧ a'.length = n + 1 ∧ (∀ x ∈ a', x.size ≤ s.size ∨ x ∈ a) ∧ s'.size ≤ s.size := by
 intro m
 have hb : BIG = 140737488355328 := rfl
 induction m with
 | zero =>
  intro i s a hm hi ha hs
  refine ⟨s, i, a, Z1 ?_, hi, ha, fun x hx => .inr hx, Nat.le_refl _⟩
  simp only [Qm.s0, Z2]
  rw [if_neg (by omega)]
 | succ m ih =>
  intro i s a hm hi ha hs
  have hx := indexByte_lt s.data.toList 47
  have hl := Z1s s
  by_cases hneg : Lib.indexByte s.data.toList 47 < 0
  ·refine ⟨s, i, a, Z1 ?_, hi, ha, fun x hx => .inr hx, Nat.le_refl _⟩
   simp only [Qm.s0, Z2, Zh2, ob_s]
   rw [if_pos (by omega), if_pos hneg]
  ·have hz1 := Z13 s 0 (Int.toNat (Lib.indexByte s.data.toList 47 + 0))
   have hz2 := Z13 s (Int.toNat (Lib.indexByte s.data.toList 47 + ((Q2d.size : Nat) : Int))) s.size
   have h1 : Q2d.size = 1 := rfl
   obtain ⟨s', i', a', h2, h3, h4, h5, h6⟩ := ih (i + 1) (s.extract (Int.toNat (Lib.indexByte s.data.toList 47 + ((Q2d.size : Nat) : Int))) s.size) (a.set i (s.extract 0 (Int.toNat (Lib.indexByte s.data.toList 47 + 0)))) (by omega) (by omega) (by simpa using ha) (by rw [hz2]; omega)
   refine ⟨s', i', a', (Z4 ?_).trans h2, h3, h4, fun x hx => ?_, by omega⟩
   ·simp only [Qm.s0, Z2, Zh2, ob_s]
    rw [if_pos (by omega), if_neg hneg, Ze (by omega) (by omega), Z0 (by omega), Z0 (by omega), Z0 (by rw [Int.toNat_natCast]; omega), Ze (by rw [h1]; omega) (by rw [h1]; omega), Z0 (by rw [h1]; omega), Ze (by omega) (by omega)]
    rfl
   ·rcases h5 x hx with h | h
    ·left; omega
    ·rcases List.mem_or_eq_of_mem_set h with h | h
     ·exact .inr h
     ·left; rw [h, hz1]; omega
theorem Zcf (l : List UInt8) (c : UInt8) : (Lib.countByte l c : Nat) ≤ l.length := List.count_le_length
theorem Zev {s : ByteArray} (hs : s.size ≤ 1000000) : ∃ l, Q1e.f s Q2d = some l ∧ l.length ≤ 1000002 ∧ ∀ x ∈ l, x.size ≤ s.size := by
 have hb : BIG = 140737488355328 := rfl
 have hl := Z1s s
 have hc := Zcf s.data.toList 47
 have hcnt : Q24.f s Q2d = some ((Lib.countByte s.data.toList 47 : Nat) : Int) := by
  show ck _ _ = _
  rw [Z0 (by rfl)]; rfl
 obtain ⟨s', i', a', h2, h3, h4, h5, h6⟩ := Zfy (n := Lib.countByte s.data.toList 47) (by omega) _ 0 s (List.replicate (Lib.countByte s.data.toList 47 + 1) ByteArray.empty) rfl (Nat.zero_le _) (by simp) (by omega)
 unfold Q1e.f Qm.f
 have e1 : ¬ (Q2d = bs_) := by decide
 have hy : min (((Lib.countByte s.data.toList 47 : Nat) : Int) + 1) (((s.size : Nat) : Int) + 1) = ((Lib.countByte s.data.toList 47 + 1 : Nat) : Int) := by omega
 simp only [Z2, hcnt, ob_s, hy]
 rw [if_neg (by decide), if_neg e1, if_pos (by decide), Ze (by omega) (by omega), Ze (by omega) (by omega), Z0 (by omega), Ze (by omega) (by omega)]
 rw [show ((Lib.countByte s.data.toList 47 + 1 : Nat) : Int) - 1 = ((Lib.countByte s.data.toList 47 : Nat) : Int) by omega, Int.toNat_natCast]
 rw [show ((0 : Nat) : Int) = 0 from rfl] at h2
 rw [h2, ob_s]
 simp only
 rw [Z0 (by omega), Z0 (by rw [Int.toNat_natCast]; omega), Ze (by omega) (by omega), Z0 (by simp only [List.length_set]; omega), ob_s]
 refine ⟨_, rfl, by simp only [List.length_take, List.length_drop, List.length_set]; omega, fun x hx => ?_⟩
 have hx1 := List.mem_of_mem_drop (List.mem_of_mem_take hx)
 rcases List.mem_or_eq_of_mem_set hx1 with h | h
 ·rcases h5 x h with h | h
  ·exact h
  ·have := List.eq_of_mem_replicate h
   rw [this]; exact Nat.zero_le _
 ·rw [h]; exact h6
noncomputable def Z22 (s : ByteArray) : List ByteArray := (Q1e.f s Q2d).getD []
theorem Zid {s : ByteArray} (hs : s.size ≤ 1000000) : Q1e.f s Q2d = some (Z22 s) ∧ (Z22 s).length ≤ 1000002 ∧ ∀ x ∈ Z22 s, x.size ≤ s.size := by
 obtain ⟨l, h1, h2, h3⟩ := Zev hs
 have e : Z22 s = l := by unfold Z22; rw [h1]; rfl
 rw [e]
 exact ⟨h1, h2, h3⟩
theorem Ziy {α : Type} {l : List α} (p : α → Bool) (f : Int → Option (Int ⊕ (Bool ⊕ Unit))) (hend : ∀ k : Nat, l.length ≤ k → f k = some (.inr (.inr ())))
  (hno : ∀ k : Nat, ∀ h : k < l.length, p l[k] = false → f k = some (.inr (.inl false))) (hyes : ∀ k : Nat, ∀ h : k < l.length, p l[k] = true → f k = some (.inl ((k : Int) + 1))) :
  ∀ (n k : Nat), l.length - k = n → Zl f (k : Int) = some (if (l.drop k).all p then .inr () else .inl false) := by
 intro n
 induction n with
 | zero =>
  intro k hn
  rw [List.drop_eq_nil_of_le (by omega)]
  exact Z1 (hend k (by omega))
 | succ n ih =>
  intro k hn
  have hlt : k < l.length := by omega
  rw [List.drop_eq_getElem_cons hlt, List.all_cons]
  cases hp : p l[k] with
  | false => exact Z1 (hno k hlt hp)
  | true =>
   rw [Bool.true_and]
   exact (Z4 (hyes k hlt hp)).trans (ih (k + 1) (by omega))
noncomputable def Z32 (s : ByteArray) : Bool := if 1 ≤ s.size ∧ s.size ≤ 200 then (Z22 s).all Z6b else false
theorem Z7z (s : ByteArray) : Qq.f s = some (Z32 s) := by
 have hb : BIG = 140737488355328 := rfl
 unfold Qq.f Z32
 simp only [Z2]
 by_cases h1 : ((s.size : Nat) : Int) < 1
 ·rw [if_pos h1, if_neg (by omega)]
 ·by_cases h2 : (200 : Int) < ((s.size : Nat) : Int)
  ·rw [if_neg h1, if_pos h2, if_neg (by omega)]
  ·obtain ⟨g1, g2, g3⟩ := Zid (s := s) (by omega)
   have h := Ziy (l := Z22 s) Z6b (fun x => Qq.s0 (Z22 s) ((Z22 s).length : Int) x) (fun k hk => by
    simp only [Qq.s0, Z2]; rw [if_neg (by omega)]) (fun k hk hp => by
    have hz := g3 _ (List.getElem_mem hk)
    simp only [Qq.s0, Z2, Zg hk, Zc9 (s := (Z22 s)[k]) (by omega), hp, ob_s]; rw [if_pos (by omega), Z0 (by omega)]; rfl) (fun k hk hp => by
    have hz := g3 _ (List.getElem_mem hk)
    simp only [Qq.s0, Z2, Zg hk, Zc9 (s := (Z22 s)[k]) (by omega), hp, ob_s]; rw [if_pos (by omega), Z0 (by omega), Ze (by omega) (by omega)]; rfl) (Z22 s).length 0 (by omega)
   rw [List.drop_zero] at h
   rw [if_neg h1, if_neg h2, if_pos (by omega), g1, ob_s]
   show ob (Zl (fun x => Qq.s0 (Z22 s) ((Z22 s).length : Int) x) ((0 : Nat) : Int)) _ = _
   rw [h]
   cases (Z22 s).all Z6b <;> rfl
def hasP (s p : ByteArray) : Bool := decide (p.size ≤ s.size) && decide (s.extract 0 p.size = p)
theorem Zcb (s p : ByteArray) : Qr.f s p = some (hasP s p) := by
 unfold Qr.f hasP
 simp only [Z2, Int.toNat_natCast]
 by_cases h : p.size ≤ s.size
 ·rw [if_pos (by omega), Z0 (by omega), decide_eq_true h, Bool.true_and]
 ·rw [if_neg (by omega), decide_eq_false h, Bool.false_and]
def cutP (s p : ByteArray) : ByteArray × Bool := if hasP s p then (s.extract p.size s.size, true) else (s, false)
theorem Z46 (s p : ByteArray) : Q11.f s p = some (cutP s p) := by
 unfold Q11.f Qu.f cutP
 simp only [Zcb, ob_s, Int.toNat_natCast]
 cases h : hasP s p with
 | false => rfl
 | true =>
  have h' : p.size ≤ s.size := by
   unfold hasP at h
   rw [Bool.and_eq_true] at h
   exact of_decide_eq_true h.1
  simp only [Bool.not_true, cb_f]
  rw [Z0 (by omega)]
  rfl
def Z8o (s : ByteArray) : ByteArray × (ByteArray × Bool) :=
 if 0 ≤ Lib.indexByte s.data.toList 58 then (s.extract 0 (Lib.indexByte s.data.toList 58).toNat, s.extract ((Lib.indexByte s.data.toList 58).toNat + 1) s.size, true) else (s, bs_, false)
theorem Zju {s : ByteArray} (hs : s.size ≤ BIG) : Q1v.f s Q26 = some (Z8o s) := by
 have hb : BIG = 140737488355328 := rfl
 have hx := indexByte_lt s.data.toList 58
 have hl := Z1s s
 have h1 : Q26.size = 1 := rfl
 unfold Q1v.f Q13.f Z8o
 simp only [index58, ob_s, Z2, h1]
 by_cases h : 0 ≤ Lib.indexByte s.data.toList 58
 ·rw [if_pos h, if_pos h, Z0 (by omega), Ze (by omega) (by omega), Z0 (by omega), ob_s]
  rw [show (Lib.indexByte s.data.toList 58 + ((1 : Nat) : Int)).toNat = (Lib.indexByte s.data.toList 58).toNat + 1 by omega]
 ·rw [if_neg h, if_neg h]; rfl
theorem Zgx {s : ByteArray} (hs : s.size ≤ BIG) : ∃ r, Q1u.f s = some r ∧ r.size ≤ s.size := by
 have hb : BIG = 140737488355328 := rfl
 have hl := Z1s s
 have go : ∀ (m : Nat) (k : Int), (k + 1).toNat = m → -1 ≤ k → k < s.size → ∃ r, Q5.l0 s (UInt8.ofInt 47) k = some r ∧ ∀ i, r = .inl i → 0 ≤ i ∧ i < s.size := by
  intro m
  induction m with
  | zero =>
   intro k hm h1 h2
   refine ⟨.inr (), Z1 ?_, fun i h => by cases h⟩
   simp only [Q5.s0, Z2]
   rw [if_neg (by omega)]
  | succ m ih =>
   intro k hm h1 h2
   by_cases he : ((UInt8.toNat (bt s k) : Nat) : Int) = ((UInt8.toNat (UInt8.ofInt 47) : Nat) : Int)
   ·refine ⟨.inl k, Z1 ?_, fun i h => by cases h; omega⟩
    simp only [Q5.s0, Z2]
    rw [if_pos (by omega), Z0 (by omega), if_pos he]
   ·obtain ⟨r, h3, h4⟩ := ih (k - 1) (by omega) (by omega) (by omega)
    refine ⟨r, (Z4 ?_).trans h3, h4⟩
    simp only [Q5.s0, Z2]
    rw [if_pos (by omega), Z0 (by omega), if_neg he, Ze (by omega) (by omega)]
 obtain ⟨r, h1, h2⟩ := go _ (((s.size : Nat) : Int) - 1) rfl (by omega) (by omega)
 unfold Q1u.f Q16.f Q5.f
 simp only [h1, ob_s]
 rw [Ze (by omega) (by omega)]
 cases r with
 | inl i =>
  have := h2 i rfl
  simp only [Zdu, ob_s]
  rw [Ze (by omega) (by omega), Z0 (by omega)]
  exact ⟨_, rfl, by rw [Z13]; omega⟩
 | inr u =>
  simp only [Z4z, ob_s]
  rw [Ze (by omega) (by omega), Z0 (by omega)]
  exact ⟨_, rfl, by rw [Z13]; omega⟩
noncomputable def labF (a : ByteArray × ByteArray) : Int := if (a.1 = bs_ ∨ Z32 a.1 = true) ∧ Z32 a.2 = true then 0 else 3
theorem Z5p (a : ByteArray × ByteArray) : Qy.f a = some (labF a) := by
 unfold Qy.f labF
 simp only [Z7z, ob_s, Z5q, Z2]
 by_cases e : a.1 = bs_
 ·simp only [e, if_true, true_or, true_and]
  cases Z32 a.2 <;> rfl
 ·simp only [e, if_false, false_or]
  cases Z32 a.1 <;> cases Z32 a.2 <;> rfl
end Go.Proofs.YtcphmeggalaplaaDoor
set_option linter.unusedVariables false
set_option linter.unusedSimpArgs false
namespace Go.Proofs.YtcphmeggalaplaaDoor
open Go Go.Proofs.YtcphmeggalaplaaDoor.Eng
theorem Z6t {s : ByteArray} (hs : s.size ≤ BIG) : ∃ b, Q15.f s = some b := by
 have hb : BIG = 140737488355328 := rfl
 have hc : ∀ p : ByteArray, (cutP s p).1.size ≤ s.size := fun p => by
  unfold cutP
  split
  ·show (s.extract _ _).size ≤ _; rw [Z13]; omega
  ·exact Nat.le_refl _
 have hcc : ∀ t : ByteArray, t.size ≤ s.size → (Z8o t).1.size ≤ s.size ∧ (Z8o t).2.1.size ≤ s.size := fun t ht => by
  unfold Z8o
  split
  ·constructor
   ·show (t.extract _ _).size ≤ _; rw [Z13]; omega
   ·show (t.extract _ _).size ≤ _; rw [Z13]; omega
  ·exact ⟨ht, Nat.zero_le _⟩
 have hw : ∀ a : ByteArray × ByteArray, a.1.size ≤ s.size → a.2.size ≤ s.size → ∃ t, Q1m.f a = some t := fun a h1 h2 => by
  unfold Q1m.f
  have e1 : Q1t.size = 2 := rfl
  have e2 : Q26.size = 1 := rfl
  simp only [ByteArray.size_append, e1, e2]
  rw [Z0 (by omega), Z0 (by omega), Z0 (by omega)]
  exact ⟨_, rfl⟩
 have hfin : ∀ r : (ByteArray × ByteArray) × Int, r.1.1.size ≤ s.size → r.1.2.size ≤ s.size → ∃ b, (ob (some r) fun r1 => (cb (decide (r1.2 = (0 : Int))) (ob (Q1m.f r1.1) fun r2 => (some (decide (r2 = s)))) (some false))) = some b := fun r h1 h2 => by
  simp only [ob_s, Z2]
  split
  ·obtain ⟨t, ht⟩ := hw r.1 h1 h2
   rw [ht]; exact ⟨_, rfl⟩
  ·exact ⟨_, rfl⟩
 have hr : ∃ r, Q1a.f s bs_ = some r ∧ r.1.1.size ≤ s.size ∧ r.1.2.size ≤ s.size := by
  unfold Q1a.f
  have h1 := hc Q1t
  have h2 := hc Q26
  simp only [decide_true, Bool.not_true, cb_f, Z46, ob_s]
  have fin : ∀ a : ByteArray × ByteArray, a.1.size ≤ s.size → a.2.size ≤ s.size → ∃ r : (ByteArray × ByteArray) × Int, (ob (Qy.f a) fun r14 => (cb (!decide (r14 = (0 : Int))) (some ((bs_, bs_), (10 : Int))) (some (a, (0 : Int))))) = some r ∧ r.1.1.size ≤ s.size ∧ r.1.2.size ≤ s.size := fun a g1 g2 => by
   rw [Z5p, ob_s, Z5q, Z2]
   split
   ·exact ⟨_, rfl, g1, g2⟩
   ·exact ⟨_, rfl, Nat.zero_le _, Nat.zero_le _⟩
  cases (cutP s Q1t).2 with
  | true =>
   obtain ⟨g1, g2⟩ := hcc _ h1
   simp only [cb_t, Zju (s := (cutP s Q1t).1) (by omega), ob_s]
   cases (Z8o (cutP s Q1t).1).2.2 with
   | true => exact fin _ g1 g2
   | false =>
    obtain ⟨t, t1, t2⟩ := Zgx (s := (Z8o (cutP s Q1t).1).1) (by omega)
    simp only [Bool.not_false, cb_t, t1, ob_s]
    exact fin ((Z8o (cutP s Q1t).1).1, t) g1 (by show t.size ≤ _; omega)
  | false =>
   simp only [cb_f]
   cases (cutP s Q26).2 with
   | true => exact fin (bs_, (cutP s Q26).1) (Nat.zero_le _) h2
   | false => exact fin (bs_, bs_) (Nat.zero_le _) (Nat.zero_le _)
 obtain ⟨r, h1, h2, h3⟩ := hr
 unfold Q15.f
 rw [h1]
 exact hfin r h2 h3
theorem contS (l : List ByteArray) (hl : l.length ≤ 1000000000) (x : ByteArray) : ∃ r : Int, Q9.f l x = some r ∧ ((r = -1 ∧ x ∉ l) ∨ ∃ k : Nat, r = k ∧ ∃ h : k < l.length, l[k] = x ∧ ∀ j : Nat, ∀ h : j < k, l[j]'(by omega) ≠ x) := by
 have go : ∀ (n k : Nat), l.length - k = n → (∀ j : Nat, ∀ h : j < l.length, j < k → l[j] ≠ x) → ∃ r, Q9.l0 l x (l.length : Int) (k : Int) = some r ∧ ((r = .inr () ∧ x ∉ l.drop k) ∨ ∃ i : Nat, r = .inl (i : Int) ∧ ∃ h : i < l.length, l[i] = x ∧ ∀ j : Nat, ∀ h : j < i, l[j]'(by omega) ≠ x) := by
  intro n
  induction n with
  | zero =>
   intro k hn hb
   refine ⟨.inr (), Z1 ?_, .inl ⟨rfl, by rw [List.drop_eq_nil_of_le (by omega)]; simp⟩⟩
   simp only [Q9.s0, Z2]
   rw [if_neg (by omega)]
  | succ n ih =>
   intro k hn hb
   have hlt : k < l.length := by omega
   by_cases e : x = l[k]
   ·refine ⟨.inl (k : Int), Z1 ?_, .inr ⟨k, rfl, hlt, e.symm, fun j hj => hb j (by omega) hj⟩⟩
    simp only [Q9.s0, Z2, Zg hlt]
    rw [if_pos (by omega), Z0 (by omega), if_pos e]
   ·obtain ⟨r, h1, h2⟩ := ih (k + 1) (by omega) (fun j hj hjk => by
     rcases Nat.lt_or_ge j k with h | h
     ·exact hb j hj h
     ·have : j = k := by omega
      subst this
      exact fun h => e h.symm)
    refine ⟨r, (Z4 ?_).trans h1, ?_⟩
    ·simp only [Q9.s0, Z2, Zg hlt]
     rw [if_pos (by omega), Z0 (by omega), if_neg e, Ze (by omega) (by omega)]
     rfl
    ·rcases h2 with ⟨h2, h3⟩ | h2
     ·refine .inl ⟨h2, fun hm => ?_⟩
      rw [List.drop_eq_getElem_cons hlt] at hm
      rcases List.mem_cons.1 hm with h | h
      ·exact e h
      ·exact h3 h
     ·exact .inr h2
 obtain ⟨r, h1, h2⟩ := go l.length 0 (by omega) (fun j _ hj => absurd hj (Nat.not_lt_zero _))
 rw [show ((0 : Nat) : Int) = 0 from rfl] at h1
 unfold Q9.f
 simp only [h1, ob_s]
 rcases h2 with ⟨rfl, h3⟩ | ⟨i, rfl, h3⟩
 ·exact ⟨-1, rfl, .inl ⟨rfl, by simpa using h3⟩⟩
 ·exact ⟨i, rfl, .inr ⟨i, rfl, h3⟩⟩
theorem Z91 (c : UInt8) : ∃ b, Q1i.f c = some b := by
 unfold Q1i.f
 rw [Z2]; split <;> exact ⟨_, rfl⟩
theorem Zf9 (c : UInt8) : ∃ b, Q1o.f c = some b := by
 unfold Q1o.f
 rw [Z2]; split <;> exact ⟨_, rfl⟩
theorem Zdn {s : ByteArray} : ∃ b, Qn.f s = some b := by
 have hl := Z1s s
 unfold Qn.f
 simp only [Z2]
 by_cases h1 : ((s.size : Nat) : Int) < 1
 ·rw [if_pos h1]; exact ⟨_, rfl⟩
 ·by_cases h2 : (40 : Int) < ((s.size : Nat) : Int)
  ·rw [if_neg h1, if_pos h2]; exact ⟨_, rfl⟩
  ·rw [if_neg h1, if_neg h2, Z0 (by omega)]
   obtain ⟨b, hb⟩ := Z91 (bt s 0)
   rw [hb, ob_s]
   cases b with
   | false => exact ⟨_, rfl⟩
   | true =>
    have go : ∀ (n k : Nat), s.size - k = n → ∃ r, Qn.l0 s (s.size : Int) (k : Int) = some r := by
     intro n
     induction n with
     | zero =>
      intro k hn
      refine ⟨.inr (), Z1 ?_⟩
      simp only [Qn.s0, Z2]
      rw [if_neg (by omega)]
     | succ n ih =>
      intro k hn
      obtain ⟨r, hr⟩ := ih (k + 1) (by omega)
      have c0 : 0 ≤ (k : Int) ∧ (k : Int) < ((s.size : Nat) : Int) := by omega
      have c1 : InR ((k : Int) + 1) := ⟨by omega, by omega⟩
      obtain ⟨b1, hb1⟩ := Z91 (bt s (k : Int))
      obtain ⟨b2, hb2⟩ := Zf9 (bt s (k : Int))
      by_cases hstop : b1 = false ∧ b2 = false ∧ ¬ ((UInt8.toNat (bt s (k : Int)) : Nat) : Int) = 95
      ·refine ⟨.inl false, Z1 ?_⟩
       simp only [Qn.s0, Z2, Z5q, if_pos c0.2, Z0 c0, hb1, hb2, ob_s, hstop.1, hstop.2.1, cb_f, if_neg hstop.2.2]
      ·refine ⟨r, (Z4 ?_).trans hr⟩
       simp only [Qn.s0, Z2, Z5q, if_pos c0.2, Z0 c0, Z0 c1, hb1, hb2, ob_s]
       cases b1 with
       | true => rfl
       | false =>
        cases b2 with
        | true => rfl
        | false =>
         have : ((UInt8.toNat (bt s (k : Int)) : Nat) : Int) = 95 := Classical.byContradiction fun h => hstop ⟨rfl, rfl, h⟩
         simp only [cb_f, if_pos this]; rfl
    obtain ⟨r, hr⟩ := go s.size 0 (by omega)
    rw [show ((0 : Nat) : Int) = 0 from rfl] at hr
    simp only [Bool.not_true, cb_f, hr, ob_s]
    cases r with
    | inl b => exact ⟨_, rfl⟩
    | inr u =>
     obtain ⟨r, h1, _⟩ := contS [Q29, Q2e, Q2h, Q2i, Q2b, Q2f, Q27, Q25] (by decide) s
     simp only [Z4z, Q1s.f, ob_s, Qt.f, h1]
     exact ⟨_, rfl⟩
def cmpS (a b : ByteArray) : Int := Lib.compareBytes a.data.toList b.data.toList
theorem cmpL_less : ∀ a b : List UInt8, (Lib.compareBytes a b < 0 ↔ Op.bytesLess a b = true)
 | [], [] => by simp [Lib.compareBytes, Op.bytesLess]
 | [], _ :: _ => by simp [Lib.compareBytes, Op.bytesLess]
 | _ :: _, [] => by simp [Lib.compareBytes, Op.bytesLess]
 | x :: a, y :: b => by
  have ih := cmpL_less a b
  unfold Lib.compareBytes Op.bytesLess
  by_cases h1 : x < y
  ·simp [h1]
  ·by_cases h2 : y < x
   ·have h3 : ¬ x = y := fun e => by subst e; exact absurd h2 (UInt8.lt_irrefl x)
    simp [h1, h2, h3]
   ·have h3 : x = y := UInt8.le_antisymm (UInt8.not_lt.1 h2) (UInt8.not_lt.1 h1)
    subst h3
    simp only [h1, if_false, decide_false, Bool.false_or, beq_self_eq_true, Bool.true_and]
    exact ih
theorem cmpL_eq0 : ∀ a b : List UInt8, (Lib.compareBytes a b = 0 ↔ a = b)
 | [], [] => by simp [Lib.compareBytes]
 | [], _ :: _ => by simp [Lib.compareBytes]
 | _ :: _, [] => by simp [Lib.compareBytes]
 | x :: a, y :: b => by
  have ih := cmpL_eq0 a b
  unfold Lib.compareBytes
  by_cases h1 : x < y
  ·have h3 : ¬ x = y := fun e => by subst e; exact absurd h1 (UInt8.lt_irrefl x)
   simp [h1, h3]
  ·by_cases h2 : y < x
   ·have h3 : ¬ x = y := fun e => by subst e; exact absurd h2 (UInt8.lt_irrefl x)
    simp [h1, h2, h3]
   ·have h3 : x = y := UInt8.le_antisymm (UInt8.not_lt.1 h2) (UInt8.not_lt.1 h1)
    subst h3
    simp only [h1, if_false, List.cons.injEq, true_and]
    exact ih
theorem cmpL_swap : ∀ a b : List UInt8, Lib.compareBytes b a = - Lib.compareBytes a b
 | [], [] => rfl
 | [], _ :: _ => rfl
 | _ :: _, [] => rfl
 | x :: a, y :: b => by
  have ih := cmpL_swap a b
  unfold Lib.compareBytes
  by_cases h1 : x < y
  ·have h2 : ¬ y < x := UInt8.not_lt.2 (UInt8.le_of_lt h1)
   simp [h1, h2]
  ·by_cases h2 : y < x
   ·simp [h1, h2]
   ·simp only [h1, h2, if_false]; exact ih
theorem cmpL_trans : ∀ a b c : List UInt8, Lib.compareBytes a b < 0 → Lib.compareBytes b c < 0 → Lib.compareBytes a c < 0
 | [], [], c, h, _ => by simp [Lib.compareBytes] at h
 | [], _ :: _, [], _, h => by simp [Lib.compareBytes] at h
 | [], _ :: _, _ :: _, _, _ => by simp [Lib.compareBytes]
 | _ :: _, [], c, h, _ => by simp [Lib.compareBytes] at h
 | _ :: _, _ :: _, [], _, h => by simp [Lib.compareBytes] at h
 | x :: a, y :: b, z :: c, h, h' => by
  have ih := cmpL_trans a b c
  unfold Lib.compareBytes at h h' ⊢
  by_cases h1 : x < y
  ·by_cases h2 : y < z
   ·simp [UInt8.lt_trans h1 h2]
   ·by_cases h3 : z < y
    ·simp [h2, h3] at h'
    ·have e : y = z := UInt8.le_antisymm (UInt8.not_lt.1 h3) (UInt8.not_lt.1 h2)
     subst e; simp [h1]
  ·by_cases h2 : y < x
   ·simp [h1, h2] at h
   ·have e : x = y := UInt8.le_antisymm (UInt8.not_lt.1 h2) (UInt8.not_lt.1 h1)
    subst e
    by_cases h3 : x < z
    ·simp [h3]
    ·by_cases h4 : z < x
     ·simp [h3, h4] at h'
     ·simp only [h1, if_false] at h
      simp only [h3, h4, if_false] at h' ⊢
      exact ih h h'
theorem Zho (a b : ByteArray) : Z48 a b = true ↔ cmpS a b < 0 := by
 unfold Z48 cmpS
 rw [ByteArray.toList_eq, ByteArray.toList_eq]
 exact (cmpL_less _ _).symm
theorem Z1x (a b : ByteArray) : cmpS a b = 0 ↔ a = b := by
 unfold cmpS
 rw [cmpL_eq0]
 exact ⟨fun h => ByteArray.ext (Array.toList_inj.1 h), fun h => by rw [h]⟩
theorem Z3e (a b : ByteArray) : cmpS b a = - cmpS a b := cmpL_swap _ _
theorem Z3d {a b c : ByteArray} (h : cmpS a b < 0) (h' : cmpS b c < 0) : cmpS a c < 0 := cmpL_trans _ _ _ h h'
theorem Z1y (a b : ByteArray) : (Z48 a b || decide (a = b)) = decide (cmpS a b ≤ 0) := by
 have h1 := Zho a b
 have h2 := Z1x a b
 by_cases h : cmpS a b < 0
 ·rw [h1.2 h, Bool.true_or, decide_eq_true (by omega)]
 ·have hf : Z48 a b = false := by
   cases hb : Z48 a b with
   | false => rfl
   | true => exact absurd (h1.1 hb) h
  rw [hf, Bool.false_or]
  exact decide_eq_decide.2 ⟨fun e => by rw [h2.2 e]; exact Int.le_refl _, fun e => h2.1 (by omega)⟩
def Rising (l : List ByteArray) : Prop := ∀ i j : Nat, ∀ h : j < l.length, ∀ h' : i < j, cmpS (l[i]'(by omega)) l[j] < 0
theorem Z3j {l : List ByteArray} (h : ∀ k : Nat, ∀ hk : k + 1 < l.length, cmpS (l[k]'(by omega)) l[k + 1] < 0) : Rising l := by
 intro i j
 induction j with
 | zero => intro h h'; omega
 | succ j ih =>
  intro hj hij
  rcases Nat.lt_or_ge i j with h1 | h1
  ·exact Z3d (ih (by omega) h1) (h j hj)
  ·have : i = j := by omega
   subst this
   exact h i hj
theorem Rising.inj {l : List ByteArray} (h : Rising l) {i j : Nat} (hi : i < l.length) (hj : j < l.length) (e : l[i] = l[j]) : i = j := by
 rcases Nat.lt_trichotomy i j with h1 | h1 | h1
 ·have := h i j hj h1
  rw [e] at this
  have h0 := (Z1x l[j] l[j]).2 rfl
  omega
 ·exact h1
 ·have := h j i hi h1
  rw [e] at this
  have h0 := (Z1x l[j] l[j]).2 rfl
  omega
theorem Z9n {l : List ByteArray} (hl : l.length ≤ 1000000000) (form : ByteArray → Option Bool) (hform : ∀ x ∈ l, ∃ b, form x = some b) (step : Int → Option (Int ⊕ (Int ⊕ Unit)))
  (hend : ∀ k : Nat, l.length ≤ k → step k = some (.inr (.inr ())))
  (hno : ∀ k : Nat, ∀ h : k < l.length, form l[k] = some false → step k = some (.inr (.inl 3)))
  (hbad : ∀ k : Nat, ∀ h : k + 1 < l.length, form l[k + 1] = some true → cmpS l[k + 1] (l[k]'(by omega)) ≤ 0 → step ((k + 1 : Nat) : Int) = some (.inr (.inl 8)))
  (hyes : ∀ k : Nat, ∀ h : k < l.length, form l[k] = some true → (∀ h0 : 0 < k, ¬ cmpS l[k] (l[k - 1]'(by omega)) ≤ 0) → step k = some (.inl ((k : Int) + 1))) :
  ∀ (n k : Nat), l.length - k = n → (∃ f : Int, f ≠ 0 ∧ Zl step (k : Int) = some (.inl f)) ∨ (Zl step (k : Int) = some (.inr ()) ∧ (∀ x ∈ l.drop k, form x = some true) ∧ ∀ i : Nat, ∀ h : i + 1 < l.length, k ≤ i + 1 → cmpS (l[i]'(by omega)) l[i + 1] < 0) := by
 intro n
 induction n with
 | zero =>
  intro k hn
  refine .inr ⟨Z1 (hend k (by omega)), fun x hx => ?_, fun i h hki => by omega⟩
  rw [List.drop_eq_nil_of_le (by omega)] at hx
  cases hx
 | succ n ih =>
  intro k hn
  have hlt : k < l.length := by omega
  obtain ⟨b, hb⟩ := hform _ (List.getElem_mem hlt)
  cases b with
  | false => exact .inl ⟨3, by decide, Z1 (hno k hlt hb)⟩
  | true =>
   by_cases hbd : ∃ h0 : 0 < k, cmpS l[k] (l[k - 1]'(by omega)) ≤ 0
   ·obtain ⟨h0, h1⟩ := hbd
    obtain ⟨k', rfl⟩ : ∃ k', k = k' + 1 := ⟨k - 1, by omega⟩
    exact .inl ⟨8, by decide, Z1 (hbad k' hlt hb h1)⟩
   ·have hs := hyes k hlt hb (fun h0 h => hbd ⟨h0, h⟩)
    rcases ih (k + 1) (by omega) with ⟨f, h1, h2⟩ | ⟨h1, h2, h3⟩
    ·exact .inl ⟨f, h1, (Z4 hs).trans h2⟩
    ·refine .inr ⟨(Z4 hs).trans h1, fun x hx => ?_, fun i hi hki => ?_⟩
     ·rw [List.drop_eq_getElem_cons hlt] at hx
      rcases List.mem_cons.1 hx with rfl | hx
      ·exact hb
      ·exact h2 x hx
     ·rcases Nat.lt_or_ge i k with h4 | h4
      ·have e : k = i + 1 := by omega
       subst e
       have h5 : ¬ cmpS l[i + 1] (l[i]'(by omega)) ≤ 0 := fun h => hbd ⟨by omega, h⟩
       have := Z3e l[i + 1] (l[i]'(by omega))
       omega
      ·exact h3 i hi (by omega)
end Go.Proofs.YtcphmeggalaplaaDoor
set_option linter.unusedVariables false
set_option linter.unusedSimpArgs false
namespace Go.Proofs.YtcphmeggalaplaaDoor
open Go Go.Proofs.YtcphmeggalaplaaDoor.Eng
theorem Z4r (s p : ByteArray) (hs : s.size ≤ BIG) : ∃ b, Qk.f s p = some b ∧ (b = true → p.size ≤ s.size) := by
 have hb : BIG = 140737488355328 := rfl
 unfold Qk.f
 simp only [Z2]
 by_cases h : ((p.size : Nat) : Int) ≤ ((s.size : Nat) : Int)
 ·rw [if_pos h, Ze (by omega) (by omega), Z0 (by omega)]
  exact ⟨_, rfl, fun _ => by omega⟩
 ·rw [if_neg h]; exact ⟨_, rfl, fun h => by cases h⟩
theorem Z8m {s : ByteArray} (hs : s.size ≤ BIG) : ∃ b, Q1h.f s = some b := by
 have hb : BIG = 140737488355328 := rfl
 have hc : (cutP s Q1t).1.size ≤ s.size := by
  unfold cutP
  split
  ·show (s.extract _ _).size ≤ _; rw [Z13]; omega
  ·exact Nat.le_refl _
 unfold Q1h.f Q1c.f Qs.f Q1f.f
 simp only [Z46, ob_s, Z2, Z5q]
 cases (cutP s Q1t).2 with
 | false => exact ⟨_, rfl⟩
 | true =>
  rw [cb_t]
  by_cases e1 : (cutP s Q1t).1 = bs_
  ·rw [if_pos e1]; exact ⟨_, rfl⟩
  ·rw [if_neg e1]
   by_cases e2 : (cutP s Q1t).1 = Q2g
   ·rw [if_pos e2]; exact ⟨_, rfl⟩
   ·rw [if_neg e2]
    obtain ⟨b, h1, h2⟩ := Z4r (cutP s Q1t).1 Q2c (by omega)
    have fin : ∀ t : ByteArray, t.size ≤ BIG → ∃ b, (ob (Qq.f t) fun r3 => cb r3 (if t = Q2g then some false else ob (ob (Qk.f t Q2c) fun r1 => some r1) fun r4 => some (!r4)) (some false)) = some b := fun t ht => by
     rw [Z7z, ob_s]
     cases Z32 t with
     | false => exact ⟨_, rfl⟩
     | true =>
      rw [cb_t]
      split
      ·exact ⟨_, rfl⟩
      ·obtain ⟨b, h1, _⟩ := Z4r t Q2c ht
       rw [h1]; exact ⟨_, rfl⟩
    rw [h1, ob_s]
    cases b with
    | false => exact fin _ (by omega)
    | true =>
     have := h2 rfl
     simp only [cb_t]
     rw [Ze (by omega) (by omega), Z0 (by omega)]
     refine fin _ ?_
     rw [Z13]; omega
end Go.Proofs.YtcphmeggalaplaaDoor
set_option linter.unusedVariables false
set_option linter.unusedSimpArgs false
namespace Go.Proofs.YtcphmeggalaplaaDoor
open Go Go.Proofs.YtcphmeggalaplaaDoor.Eng
theorem Z89 {β α : Type} {x : α} {a : Option β} : ck (x = x) a = a := Z0 rfl
theorem Zif {l : List ByteArray} (hl : l.length ≤ 1000000000) (hs : ∀ x ∈ l, x.size ≤ BIG) : (∃ f : Int, f ≠ 0 ∧ Qd.f l () = some f) ∨ (Qd.f l () = some 0 ∧ (∀ x ∈ l, Q15.f x = some true) ∧ Rising l) := by
 have h := Z9n hl Q15.f (fun x hx => Z6t (hs x hx)) (fun x => Qd.s0 l l (l.length : Int) x) (fun k hk => by
   simp only [Qd.s0, Z2]; rw [if_neg (by omega)]) (fun k hk hf => by
   simp only [Qd.s0, Z2, Zg hk, hf, ob_s]; rw [if_pos (by omega), Z0 (by omega)]; rfl) (fun k hk hf hc => by
   have hk' : k < l.length := by omega
   have e : ((k + 1 : Nat) : Int) - 1 = (k : Int) := by omega
   simp only [Qd.s0, Z2, Zg hk, hf, ob_s, Bool.not_true, cb_f, e, Zg hk', Z1y]
   rw [if_pos (by omega), Z0 (by omega), if_pos (by omega), Ze (by omega) (by omega), Z0 (by omega), if_pos hc]) (fun k hk hf hc => by
   rcases Nat.eq_zero_or_pos k with h0 | h0
   ·subst h0
    simp only [Qd.s0, Z2, Zg hk, hf, ob_s, Bool.not_true, cb_f]
    rw [if_pos (by omega), Z0 (by omega), if_neg (by omega), Ze (by omega) (by omega)]
   ·obtain ⟨k', rfl⟩ : ∃ k', k = k' + 1 := ⟨k - 1, by omega⟩
    have hk' : k' < l.length := by omega
    have e : ((k' + 1 : Nat) : Int) - 1 = (k' : Int) := by omega
    have hc' := hc h0
    simp only [Nat.add_sub_cancel] at hc'
    simp only [Qd.s0, Z2, Zg hk, hf, ob_s, Bool.not_true, cb_f, e, Zg hk', Z1y]
    rw [if_pos (by omega), Z0 (by omega), if_pos (by omega), Ze (by omega) (by omega), Z0 (by omega), if_neg hc', Ze (by omega) (by omega)]) l.length 0 (by omega)
 unfold Qd.f
 show (∃ f : Int, f ≠ 0 ∧ ob (Zl (fun x => Qd.s0 l l (l.length : Int) x) ((0 : Nat) : Int)) _ = _) ∨ (ob (Zl (fun x => Qd.s0 l l (l.length : Int) x) ((0 : Nat) : Int)) _ = _ ∧ _)
 rcases h with ⟨f, h1, h2⟩ | ⟨h1, h2, h3⟩
 ·rw [h2]; exact .inl ⟨f, h1, rfl⟩
 ·rw [h1]; exact .inr ⟨rfl, fun x hx => h2 x (by simpa using hx), Z3j fun k hk => h3 k hk (by omega)⟩
theorem risingW {l : List ByteArray} (hl : l.length ≤ 1000000000) (hs : ∀ x ∈ l, x.size ≤ BIG) : ∃ f, Qd.f l () = some f ∧ (f = 0 → Rising l) := by
 rcases Zif hl hs with ⟨f, h1, h2⟩ | ⟨h1, _, h2⟩
 ·exact ⟨f, h2, fun h => absurd h h1⟩
 ·exact ⟨0, h1, fun _ => h2⟩
theorem rise_ok {l : List ByteArray} (hl : l.length ≤ 1000000000) (hw : ∀ x ∈ l, Q15.f x = some true) (hr : Rising l) : Qd.f l () = some 0 := by
 have go : ∀ (n k : Nat), l.length - k = n → Qd.l0 l l (l.length : Int) (k : Int) = some (.inr ()) := by
  intro n
  induction n with
  | zero =>
   intro k hn
   refine Z1 ?_
   simp only [Qd.s0, Z2]; rw [if_neg (by omega)]
  | succ n ih =>
   intro k hn
   have hk : k < l.length := by omega
   refine (Z4 ?_).trans (ih (k + 1) (by omega))
   have hf := hw _ (List.getElem_mem hk)
   rcases Nat.eq_zero_or_pos k with h0 | h0
   ·subst h0
    simp only [Qd.s0, Z2, Zg hk, hf, ob_s, Bool.not_true, cb_f]
    rw [if_pos (by omega), Z0 (by omega), if_neg (by omega), Ze (by omega) (by omega)]
    rfl
   ·obtain ⟨k', rfl⟩ : ∃ k', k = k' + 1 := ⟨k - 1, by omega⟩
    have hk' : k' < l.length := by omega
    have e : ((k' + 1 : Nat) : Int) - 1 = (k' : Int) := by omega
    have hc' : ¬ cmpS l[k' + 1] l[k'] ≤ 0 := by
     have := hr k' (k' + 1) hk (Nat.lt_succ_self _)
     have := Z3e l[k'] l[k' + 1]
     omega
    simp only [Qd.s0, Z2, Zg hk, hf, ob_s, Bool.not_true, cb_f, e, Zg hk', Z1y]
    rw [if_pos (by omega), Z0 (by omega), if_pos (by omega), Ze (by omega) (by omega), Z0 (by omega), if_neg hc', Ze (by omega) (by omega)]
    rfl
 unfold Qd.f
 have h := go l.length 0 (by omega)
 rw [show ((0 : Nat) : Int) = 0 from rfl] at h
 simp only [h, ob_s, Z4z]
theorem risingP {l : List ByteArray} (hl : l.length ≤ 1000000000) : ∃ f, Qh.f l () = some f := by
 have h := Z9n hl Qq.f (fun x hx => ⟨_, Z7z x⟩) (fun x => Qh.s0 l l (l.length : Int) x) (fun k hk => by
   simp only [Qh.s0, Z2]; rw [if_neg (by omega)]) (fun k hk hf => by
   simp only [Qh.s0, Z2, Zg hk, hf, ob_s]; rw [if_pos (by omega), Z0 (by omega)]; rfl) (fun k hk hf hc => by
   have hk' : k < l.length := by omega
   have e : ((k + 1 : Nat) : Int) - 1 = (k : Int) := by omega
   simp only [Qh.s0, Z2, Zg hk, hf, ob_s, Bool.not_true, cb_f, e, Zg hk', Z1y]
   rw [if_pos (by omega), Z0 (by omega), if_pos (by omega), Ze (by omega) (by omega), Z0 (by omega), if_pos hc]) (fun k hk hf hc => by
   rcases Nat.eq_zero_or_pos k with h0 | h0
   ·subst h0
    simp only [Qh.s0, Z2, Zg hk, hf, ob_s, Bool.not_true, cb_f]
    rw [if_pos (by omega), Z0 (by omega), if_neg (by omega), Ze (by omega) (by omega)]
   ·obtain ⟨k', rfl⟩ : ∃ k', k = k' + 1 := ⟨k - 1, by omega⟩
    have hk' : k' < l.length := by omega
    have e : ((k' + 1 : Nat) : Int) - 1 = (k' : Int) := by omega
    have hc' := hc h0
    simp only [Nat.add_sub_cancel] at hc'
    simp only [Qh.s0, Z2, Zg hk, hf, ob_s, Bool.not_true, cb_f, e, Zg hk', Z1y]
    rw [if_pos (by omega), Z0 (by omega), if_pos (by omega), Ze (by omega) (by omega), Z0 (by omega), if_neg hc', Ze (by omega) (by omega)]) l.length 0 (by omega)
 unfold Qh.f
 show ∃ f, ob (Zl (fun x => Qh.s0 l l (l.length : Int) x) ((0 : Nat) : Int)) _ = _
 rcases h with ⟨f, h1, h2⟩ | ⟨h1, _, h3⟩
 ·rw [h2]; exact ⟨f, rfl⟩
 ·rw [h1]; exact ⟨0, rfl⟩
theorem risingN {l : List ByteArray} (hl : l.length ≤ 1000000000) (hs : ∀ x ∈ l, x.size ≤ BIG) : ∃ f, Qi.f l () = some f := by
 have h := Z9n hl Q1h.f (fun x hx => Z8m (hs x hx)) (fun x => Qi.s0 l l (l.length : Int) x) (fun k hk => by
   simp only [Qi.s0, Z2]; rw [if_neg (by omega)]) (fun k hk hf => by
   simp only [Qi.s0, Z2, Zg hk, hf, ob_s]; rw [if_pos (by omega), Z0 (by omega)]; rfl) (fun k hk hf hc => by
   have hk' : k < l.length := by omega
   have e : ((k + 1 : Nat) : Int) - 1 = (k : Int) := by omega
   simp only [Qi.s0, Z2, Zg hk, hf, ob_s, Bool.not_true, cb_f, e, Zg hk', Z1y]
   rw [if_pos (by omega), Z0 (by omega), if_pos (by omega), Ze (by omega) (by omega), Z0 (by omega), if_pos hc]) (fun k hk hf hc => by
   rcases Nat.eq_zero_or_pos k with h0 | h0
   ·subst h0
    simp only [Qi.s0, Z2, Zg hk, hf, ob_s, Bool.not_true, cb_f]
    rw [if_pos (by omega), Z0 (by omega), if_neg (by omega), Ze (by omega) (by omega)]
   ·obtain ⟨k', rfl⟩ : ∃ k', k = k' + 1 := ⟨k - 1, by omega⟩
    have hk' : k' < l.length := by omega
    have e : ((k' + 1 : Nat) : Int) - 1 = (k' : Int) := by omega
    have hc' := hc h0
    simp only [Nat.add_sub_cancel] at hc'
    simp only [Qi.s0, Z2, Zg hk, hf, ob_s, Bool.not_true, cb_f, e, Zg hk', Z1y]
    rw [if_pos (by omega), Z0 (by omega), if_pos (by omega), Ze (by omega) (by omega), Z0 (by omega), if_neg hc', Ze (by omega) (by omega)]) l.length 0 (by omega)
 unfold Qi.f
 show ∃ f, ob (Zl (fun x => Qi.s0 l l (l.length : Int) x) ((0 : Nat) : Int)) _ = _
 rcases h with ⟨f, h1, h2⟩ | ⟨h1, _, h3⟩
 ·rw [h2]; exact ⟨f, rfl⟩
 ·rw [h1]; exact ⟨0, rfl⟩
def szNd (n : Nd) : Prop := n.1.size ≤ BIG ∧ (∀ x ∈ n.2.2.1, x.size ≤ BIG) ∧ (∀ x ∈ n.2.2.2.1, x.size ≤ BIG) ∧ ∀ x ∈ n.2.2.2.2.1, x.size ≤ BIG
theorem Z8p {n : Nd} (h : szNd n) : ∃ f, Q17.f n = some f ∧ (f = 0 → n.2.2.1.length ≤ 300 ∧ Rising n.2.2.1 ∧ 0 ≤ n.2.2.2.2.2 ∧ n.2.2.2.2.2 ≤ 1000000 ∧ n.2.2.2.1.length ≤ 1000) := by
 unfold Q17.f
 obtain ⟨b1, h1⟩ := Z6t h.1
 obtain ⟨b2, h2⟩ := Zdn (s := n.2.1)
 simp only [h1, h2, ob_s, Z2, Z5q]
 cases b1 with
 | false => exact ⟨3, rfl, fun h => by cases h⟩
 | true =>
  cases b2 with
  | false => exact ⟨5, rfl, fun h => by cases h⟩
  | true =>
   simp only [cb_t]
   by_cases c1 : (300 : Int) < ((n.2.2.1.length : Nat) : Int)
   ·rw [if_pos c1]; exact ⟨2, rfl, fun h => by cases h⟩
   ·rw [if_neg c1]
    obtain ⟨f1, g1, g2⟩ := risingW (l := n.2.2.1) (by omega) h.2.1
    rw [g1, ob_s]
    by_cases e1 : f1 = 0
    ·rw [if_pos e1]
     by_cases c2 : (1000 : Int) < ((n.2.2.2.1.length : Nat) : Int)
     ·rw [if_pos c2]; exact ⟨2, rfl, fun h => by cases h⟩
     ·rw [if_neg c2]
      obtain ⟨f2, g3⟩ := risingP (l := n.2.2.2.1) (by omega)
      rw [g3, ob_s]
      by_cases e2 : f2 = 0
      ·rw [if_pos e2]
       by_cases c3 : (50 : Int) < ((n.2.2.2.2.1.length : Nat) : Int)
       ·rw [if_pos c3]; exact ⟨2, rfl, fun h => by cases h⟩
       ·rw [if_neg c3]
        obtain ⟨f3, g4⟩ := risingN (l := n.2.2.2.2.1) (by omega) h.2.2.2
        rw [g4, ob_s]
        by_cases e3 : f3 = 0
        ·rw [if_pos e3]
         by_cases c4 : n.2.2.2.2.2 < 0
         ·rw [if_pos c4]; exact ⟨1, rfl, fun h => by cases h⟩
         ·rw [if_neg c4]
          by_cases c5 : 1000000 < n.2.2.2.2.2
          ·rw [if_pos c5]; exact ⟨1, rfl, fun h => by cases h⟩
          ·rw [if_neg c5]; exact ⟨0, rfl, fun _ => ⟨by omega, g2 e1, by omega, by omega, by omega⟩⟩
        ·rw [if_neg e3]; exact ⟨f3, rfl, fun h => absurd h e3⟩
      ·rw [if_neg e2]; exact ⟨f2, rfl, fun h => absurd h e2⟩
    ·rw [if_neg e1]; exact ⟨f1, rfl, fun h => absurd h e1⟩
theorem Zhr (n : Nd) (s : ByteArray) : Q1z.f n s = some (cmpS n.1 s) := rfl
def labs (g : List Nd) : List ByteArray := g.map (·.1)
theorem Z2t {g : List Nd} {k : Nat} (h : k < g.length) : (labs g)[k]'(by unfold labs; simpa using h) = g[k].1 := by simp [labs]
theorem half {a b : Nat} (ha : a ≤ 1000000) (hb : b ≤ 1000000) : IntKind.i64.wrap (Int.fdiv (IntKind.u64.wrap ((a : Int) + (b : Int))) (2 ^ min (Int.toNat (1 : Int)) (IntKind.bits .u64))) = ((a + b) / 2 : Nat) := by
 have e1 : IntKind.u64.wrap ((a : Int) + (b : Int)) = ((a + b : Nat) : Int) := by
  simp only [IntKind.wrap, IntKind.bits, IntKind.signed, Bool.false_and, Bool.false_eq_true, if_false]
  have e : (2 : Int) ^ 64 = 18446744073709551616 := by decide
  rw [e]; omega
 have e2 : (2 : Int) ^ min (Int.toNat (1 : Int)) (IntKind.bits .u64) = 2 := by decide
 rw [e1, e2]
 have e3 : Int.fdiv ((a + b : Nat) : Int) 2 = ((a + b) / 2 : Nat) := by
  rw [Int.fdiv_eq_ediv_of_nonneg _ (by decide)]; omega
 rw [e3]
 exact IntWalk.i64_in _ ⟨by omega, by omega⟩
theorem at_ok {g : List Nd} (hl : g.length ≤ 1000) (hr : Rising (labs g)) (s : ByteArray) : ∃ r, Q21.f g s = some r ∧ ((r = -1 ∧ ∀ k : Nat, ∀ h : k < g.length, g[k].1 ≠ s) ∨ ∃ k : Nat, r = k ∧ ∃ h : k < g.length, g[k].1 = s) := by
 have go : ∀ (n a b : Nat), b - a = n → a ≤ b → b ≤ g.length → (∀ k : Nat, ∀ h : k < g.length, k < a → cmpS g[k].1 s < 0) → (∀ k : Nat, ∀ h : k < g.length, b ≤ k → ¬ cmpS g[k].1 s < 0) →
   ∃ c : Nat, Q0.l0 g s (a : Int) (b : Int) = some (c : Int) ∧ c ≤ g.length ∧ (∀ k : Nat, ∀ h : k < g.length, k < c → cmpS g[k].1 s < 0) ∧ (∀ k : Nat, ∀ h : k < g.length, c ≤ k → ¬ cmpS g[k].1 s < 0) := by
  intro n
  induction n using Nat.strongRecOn with
  | _ n ih =>
   intro a b hn hab hb h1 h2
   rcases Nat.lt_or_ge a b with hlt | hge
   ·have hm : (a + b) / 2 < g.length := by omega
    have hh := half (a := a) (b := b) (by omega) (by omega)
    have hmono : ∀ i j : Nat, ∀ hi : i < g.length, ∀ hj : j < g.length, i < j → cmpS g[i].1 g[j].1 < 0 := fun i j hi hj hij => by
     have := hr i j (by unfold labs; simpa using hj) hij
     rw [Z2t hi, Z2t hj] at this
     exact this
    by_cases hc : cmpS g[(a + b) / 2].1 s < 0
    ·obtain ⟨c, h3, h4⟩ := ih (b - ((a + b) / 2 + 1)) (by omega) ((a + b) / 2 + 1) b rfl (by omega) hb (fun k hk hka => by
      rcases Nat.lt_or_ge k ((a + b) / 2) with h | h
      ·exact Z3d (hmono k _ hk hm h) hc
      ·have : k = (a + b) / 2 := by omega
       subst this; exact hc) h2
     refine ⟨c, (Z4 ?_).trans h3, h4⟩
     simp only [Q0.s0, Z2, hh, Zg hm, Zhr, ob_s]
     rw [if_pos (by omega), Ze (by omega) (by omega), Z0 (by omega), if_pos hc, Ze (by omega) (by omega)]
     rfl
    ·obtain ⟨c, h3, h4⟩ := ih ((a + b) / 2 - a) (by omega) a ((a + b) / 2) rfl (by omega) (by omega) h1 (fun k hk hka => by
      intro h
      rcases Nat.lt_or_ge ((a + b) / 2) k with h5 | h5
      ·exact hc (Z3d (hmono _ k hm hk h5) h)
      ·have : k = (a + b) / 2 := by omega
       subst this; exact hc h)
     refine ⟨c, (Z4 ?_).trans h3, h4⟩
     simp only [Q0.s0, Z2, hh, Zg hm, Zhr, ob_s]
     rw [if_pos (by omega), Ze (by omega) (by omega), Z0 (by omega), if_neg hc]
   ·have e : a = b := by omega
    subst e
    refine ⟨a, Z1 ?_, hb, h1, h2⟩
    simp only [Q0.s0, Z2]
    rw [if_neg (by omega)]
 obtain ⟨c, h1, h2, h3, h4⟩ := go _ 0 g.length rfl (Nat.zero_le _) (Nat.le_refl _) (fun k _ h => absurd h (Nat.not_lt_zero _)) (fun k hk h => by omega)
 rw [show ((0 : Nat) : Int) = 0 from rfl] at h1
 unfold Q21.f Q0.f
 simp only [h1, ob_s, Z2]
 by_cases hc : c < g.length
 ·rw [if_pos (by omega), Z0 (by omega)]
  simp only [Zg hc, Zhr, ob_s]
  by_cases h0 : cmpS g[c].1 s = 0
  ·simp only [h0, decide_true, Bool.not_true, cb_f]
   exact ⟨c, rfl, .inr ⟨c, rfl, hc, (Z1x _ _).1 h0⟩⟩
  ·simp only [h0, decide_false, Bool.not_false, cb_t]
   refine ⟨-1, rfl, .inl ⟨rfl, fun k hk e => ?_⟩⟩
   have hz : cmpS g[k].1 s = 0 := (Z1x _ _).2 e
   rcases Nat.lt_trichotomy k c with h | h | h
   ·have := h3 k hk h; omega
   ·subst h; exact h0 hz
   ·have h5 := hr c k (by unfold labs; simpa using hk) h
    rw [Z2t hc, Z2t hk, e] at h5
    exact h4 c hc (Nat.le_refl _) h5
 ·rw [if_neg (by omega)]
  simp only [ob_s, Bool.not_false, cb_t]
  refine ⟨-1, rfl, .inl ⟨rfl, fun k hk e => ?_⟩⟩
  have hz : cmpS g[k].1 s = 0 := (Z1x _ _).2 e
  have := h3 k hk (by omega)
  omega
noncomputable def posI (g : List Nd) (s : ByteArray) : Int := (Q21.f g s).getD (-1)
theorem Zbl {g : List Nd} (hl : g.length ≤ 1000) (hr : Rising (labs g)) (s : ByteArray) : Q21.f g s = some (posI g s) ∧ ((posI g s = -1 ∧ ∀ k : Nat, ∀ h : k < g.length, g[k].1 ≠ s) ∨ ∃ k : Nat, posI g s = k ∧ ∃ h : k < g.length, g[k].1 = s) := by
 obtain ⟨r, h1, h2⟩ := at_ok hl hr s
 have e : posI g s = r := by unfold posI; rw [h1]; rfl
 rw [e]
 exact ⟨h1, h2⟩
end Go.Proofs.YtcphmeggalaplaaDoor
set_option linter.unusedVariables false
set_option linter.unusedSimpArgs false
namespace Go.Proofs.YtcphmeggalaplaaDoor
open Go Go.Proofs.YtcphmeggalaplaaDoor.Eng
theorem Zal {β : Type} {a : Option β} : ck True a = a := Z0 trivial
noncomputable def Z3q (g : List Nd) : List (List Int) := g.map fun n => n.2.2.1.map (posI g)
noncomputable def D (g : List Nd) (i : Nat) : List Int := (Z3q g).getD i []
noncomputable def U (g : List Nd) (i k : Nat) : List Int := ((List.range i).filter fun i' => decide ((k : Int) ∈ D g i')).map fun x : Nat => (x : Int)
noncomputable def Z1c (g : List Nd) : List (List Int) := (List.range g.length).map fun k => U g g.length k
theorem Zcw {g : List Nd} {i : Nat} (h : i < g.length) : D g i = g[i].2.2.1.map (posI g) := by
 simp [D, Z3q, List.getD, h]
theorem U_succ (g : List Nd) (i k : Nat) : U g (i + 1) k = U g i k ++ (if (k : Int) ∈ D g i then [(i : Int)] else []) := by
 unfold U
 rw [List.range_succ, List.filter_append, List.map_append]
 congr 1
 by_cases h : (k : Int) ∈ D g i
 ·simp [h]
 ·simp [h]
theorem Zjk (g : List Nd) (i k : Nat) : (U g i k).length ≤ i := by
 unfold U
 rw [List.length_map]
 exact Nat.le_trans (List.length_filter_le _ _) (by simp)
structure Right (g : List Nd) : Prop where
 len : g.length ≤ 1000
 lab : Rising (labs g)
 nd : ∀ n ∈ g, n.2.2.1.length ≤ 300 ∧ Rising n.2.2.1 ∧ 0 ≤ n.2.2.2.2.2 ∧ n.2.2.2.2.2 ≤ 1000000
 dep : ∀ n ∈ g, ∀ s ∈ n.2.2.1, 0 ≤ posI g s
section
variable {g : List Nd}
theorem Right.at (h : Right g) (s : ByteArray) : Q21.f g s = some (posI g s) ∧ ((posI g s = -1 ∧ ∀ k : Nat, ∀ h : k < g.length, g[k].1 ≠ s) ∨ ∃ k : Nat, posI g s = k ∧ ∃ h : k < g.length, g[k].1 = s) := Zbl h.len h.lab s
end
structure Inv (g : List Nd) (i j : Nat) (dps usr : List (List Int)) : Prop where
 dl : dps.length = g.length
 ul : usr.length = g.length
 d : ∀ q, q < g.length → dps.getD q [] = if q < i then D g q else if q = i then (D g i).take j else []
 u : ∀ k, k < g.length → usr.getD k [] = U g i k ++ (if (k : Int) ∈ (D g i).take j then [(i : Int)] else [])
theorem Inv.next {g : List Nd} {i : Nat} {dps usr : List (List Int)} (h : Inv g i (D g i).length dps usr) : Inv g (i + 1) 0 dps usr := by
 refine ⟨h.dl, h.ul, fun q hq => ?_, fun k hk => ?_⟩
 ·rw [h.d q hq]
  rcases Nat.lt_trichotomy q i with h1 | h1 | h1
  ·rw [if_pos h1, if_pos (by omega)]
  ·subst h1; rw [if_neg (by omega), if_pos rfl, if_pos (by omega), List.take_of_length_le (Nat.le_refl _)]
  ·rw [if_neg (by omega), if_neg (by omega), if_neg (by omega)]
   split
   ·rfl
   ·rfl
 ·rw [h.u k hk, U_succ, List.take_of_length_le (Nat.le_refl _), List.take_zero]
  simp
theorem getD_set {α : Type} (l : List α) (i : Nat) (x : α) (q : Nat) (d : α) (hi : i < l.length) : (l.set i x).getD q d = if q = i then x else l.getD q d := by
 unfold List.getD
 rw [List.getElem?_set]
 by_cases h : i = q
 ·subst h; rw [if_pos rfl, if_pos hi, if_pos rfl]; rfl
 ·rw [if_neg h, if_neg (fun e => h e.symm)]
theorem Inv.step {g : List Nd} {i j d : Nat} {dps usr : List (List Int)} (h : Inv g i j dps usr) (hi : i < g.length) (hd : d < g.length) (hj : j < (D g i).length) (he : (D g i)[j] = (d : Int)) (hno : (d : Int) ∉ (D g i).take j) :
  Inv g i (j + 1) (dps.set i (dps.getD i [] ++ [(d : Int)])) (usr.set d (usr.getD d [] ++ [(i : Int)])) := by
 have ht : (D g i).take (j + 1) = (D g i).take j ++ [(d : Int)] := by rw [List.take_succ_eq_append_getElem hj, he]
 refine ⟨by simpa using h.dl, by simpa using h.ul, fun q hq => ?_, fun k hk => ?_⟩
 ·rw [getD_set _ _ _ _ _ (by rw [h.dl]; exact hi)]
  by_cases hqi : q = i
  ·subst hqi
   have := h.d q hq
   rw [if_neg (by omega), if_pos rfl] at this
   rw [if_pos rfl, if_neg (by omega), if_pos rfl, this, ht]
  ·rw [if_neg hqi, h.d q hq]
   split
   ·rfl
   ·rfl
 ·rw [getD_set _ _ _ _ _ (by rw [h.ul]; exact hd), ht]
  by_cases hkd : k = d
  ·subst hkd
   have := h.u k hk
   rw [if_neg hno, List.append_nil] at this
   rw [if_pos rfl, this, if_pos (by simp)]
  ·rw [if_neg hkd, h.u k hk]
   have e : (k : Int) ∈ (D g i).take j ++ [(d : Int)] ↔ (k : Int) ∈ (D g i).take j := by
    simp only [List.mem_append, List.mem_singleton]
    constructor
    ·intro h
     rcases h with h | h
     ·exact h
     ·exact absurd (by omega : k = d) hkd
    ·exact .inl
   by_cases hm : (k : Int) ∈ (D g i).take j
   ·rw [if_pos hm, if_pos (e.2 hm)]
   ·rw [if_neg hm, if_neg (fun h => hm (e.1 h))]
theorem Zi3 {g : List Nd} (hl : g.length ≤ 1000) (hr : Rising (labs g)) {i : Nat} (hi : i < g.length) (hri : Rising g[i].2.2.1) {j : Nat} (hj : j < g[i].2.2.1.length) {d : Nat} (hp : posI g g[i].2.2.1[j] = (d : Int)) : (d : Int) ∉ (D g i).take j := by
 intro hm
 obtain ⟨q, hq, he⟩ := List.getElem_of_mem hm
 have hql : q < j := by have := hq; simp at this; omega
 have hqs : q < g[i].2.2.1.length := by omega
 rw [List.getElem_take] at he
 simp only [Zcw hi, List.getElem_map] at he
 have h1 := (Zbl hl hr g[i].2.2.1[j]).2
 have h2 := (Zbl hl hr g[i].2.2.1[q]).2
 rcases h1 with ⟨h1, _⟩ | ⟨a, h1, ha, hb⟩
 ·omega
 ·rcases h2 with ⟨h2, _⟩ | ⟨c, h2, hc, hd⟩
  ·omega
  ·have e : a = c := by omega
   subst e
   have := hri q j hj hql
   rw [← hb, ← hd] at this
   have h0 := (Z1x g[a].1 g[a].1).2 rfl
   omega
theorem openIn {g : List Nd} (hl : g.length ≤ 1000) (hr : Rising (labs g)) {i : Nat} (hi : i < g.length) (hn : g[i].2.2.1.length ≤ 300) (hri : Rising g[i].2.2.1) :
  ∀ (n j : Nat) (dps usr : List (List Int)), g[i].2.2.1.length - j = n → j ≤ g[i].2.2.1.length → Inv g i j dps usr →
   Qb.l2 g (i : Int) g[i].2.2.1 (g[i].2.2.1.length : Int) (j : Int) dps usr g = some (.inl (none, 9)) ∧ (∃ s ∈ g[i].2.2.1, posI g s < 0) ∨
   ∃ dps' usr', Qb.l2 g (i : Int) g[i].2.2.1 (g[i].2.2.1.length : Int) (j : Int) dps usr g = some (.inr (dps', usr', g)) ∧ Inv g i (D g i).length dps' usr' ∧ ∀ s ∈ g[i].2.2.1.drop j, 0 ≤ posI g s := by
 have hDl : (D g i).length = g[i].2.2.1.length := by rw [Zcw hi, List.length_map]
 intro n
 induction n with
 | zero =>
  intro j dps usr hn' hj inv
  have e : j = (D g i).length := by omega
  refine .inr ⟨dps, usr, Z1 ?_, e ▸ inv, fun s hs => ?_⟩
  ·simp only [Qb.s2, Z2]
   rw [if_neg (by omega)]
  ·rw [List.drop_eq_nil_of_le (by omega)] at hs; cases hs
 | succ n ih =>
  intro j dps usr hn' hj inv
  have hlt : j < g[i].2.2.1.length := by omega
  obtain ⟨ha, hp⟩ := Zbl hl hr g[i].2.2.1[j]
  rcases hp with ⟨hp, _⟩ | ⟨d, hp, hd, he⟩
  ·left
   refine ⟨Z1 ?_, _, List.getElem_mem hlt, by omega⟩
   simp only [Qb.s2, Z2, Zg hlt, ha, hp, ob_s]
   rw [if_pos (by omega), Z0 (by omega), if_pos (by decide)]
  ·have hDj : (D g i)[j]'(by omega) = (d : Int) := by simp only [Zcw hi, List.getElem_map]; exact hp
   have hno := Zi3 hl hr hi hri hlt hp
   have inv' := inv.step hi hd (by omega) hDj hno
   have c0 : 0 ≤ (j : Int) ∧ (j : Int) < (g[i].2.2.1.length : Int) := by omega
   have c1 : ¬ (d : Int) < 0 := by omega
   have hdl := inv.dl
   have hul := inv.ul
   have c2 : 0 ≤ (i : Int) ∧ (i : Int) < (dps.length : Int) := by omega
   have c3 : i < dps.length := by omega
   have hrow : (dps.getD i []).length ≤ 300 := by
    rw [inv.d i hi, if_neg (by omega), if_pos rfl, List.length_take]; omega
   have hurow : (usr.getD d []).length ≤ 1001 := by
    have := Zjk g i d
    rw [inv.u d hd, List.length_append]
    split <;> simp only [List.length_cons, List.length_nil] <;> omega
   have c4 : i < dps.length ∧ ((dps.getD i []).length + [(d : Int)].length) * 8 ≤ 140737488355328 := ⟨c3, by simp only [List.length_cons, List.length_nil]; omega⟩
   have c5 : 0 ≤ (d : Int) ∧ (d : Int) < (usr.length : Int) := by omega
   have c6 : d < usr.length := by omega
   have c7 : d < usr.length ∧ ((usr.getD d []).length + [(i : Int)].length) * 8 ≤ 140737488355328 := ⟨c6, by simp only [List.length_cons, List.length_nil]; omega⟩
   have c8 : InR ((j : Int) + 1) := ⟨by omega, by omega⟩
   have hstep : Qb.s2 g (i : Int) g[i].2.2.1 (g[i].2.2.1.length : Int) (j : Int) dps usr g = some (.inl ((j : Int) + 1, dps.set i (dps.getD i [] ++ [(d : Int)]), usr.set d (usr.getD d [] ++ [(i : Int)]), g)) := by
    simp only [Qb.s2, Z2, Zg hlt, ha, hp, ob_s, if_pos c0.2, Z0 c0, if_neg c1, mix_eq, Int.toNat_natCast, List.length_set, Z0 c2, Z0 c3, Z0 c4, Z0 c5, Z0 c6, Z0 c7, Z0 c8, Z89, Z5s, Zal]
   rcases ih (j + 1) _ _ (by omega) (by omega) inv' with ⟨h, hb⟩ | ⟨d', u', h1, h2, h3⟩
   ·exact .inl ⟨(Z4 hstep).trans h, hb⟩
   ·refine .inr ⟨d', u', (Z4 hstep).trans h1, h2, fun s hs => ?_⟩
    rw [List.drop_eq_getElem_cons hlt] at hs
    rcases List.mem_cons.1 hs with rfl | hs
    ·omega
    ·exact h3 s hs
theorem openOut {g : List Nd} (hl : g.length ≤ 1000) (hr : Rising (labs g)) (hnd : ∀ n ∈ g, n.2.2.1.length ≤ 300 ∧ Rising n.2.2.1) :
  ∀ (n i : Nat) (dps usr : List (List Int)), g.length - i = n → i ≤ g.length → Inv g i 0 dps usr →
   Qb.l1 g g (g.length : Int) (i : Int) dps usr g = some (.inl (none, 9)) ∧ (∃ n ∈ g, ∃ s ∈ n.2.2.1, posI g s < 0) ∨
   ∃ dps' usr', Qb.l1 g g (g.length : Int) (i : Int) dps usr g = some (.inr (dps', usr', g)) ∧ Inv g g.length 0 dps' usr' ∧ ∀ n ∈ g.drop i, ∀ s ∈ n.2.2.1, 0 ≤ posI g s := by
 intro n
 induction n with
 | zero =>
  intro i dps usr hn hi inv
  have e : i = g.length := by omega
  refine .inr ⟨dps, usr, Z1 ?_, e ▸ inv, fun s hs => ?_⟩
  ·simp only [Qb.s1, Z2]
   rw [if_neg (by omega)]
  ·rw [List.drop_eq_nil_of_le (by omega)] at hs; cases hs
 | succ n ih =>
  intro i dps usr hn hi inv
  have hlt : i < g.length := by omega
  obtain ⟨h1, h2⟩ := hnd _ (List.getElem_mem hlt)
  rcases openIn hl hr hlt h1 h2 _ 0 dps usr rfl (Nat.zero_le _) inv with ⟨h, hb⟩ | ⟨d', u', h3, h4, h5⟩
  ·left
   rw [show ((0 : Nat) : Int) = 0 from rfl] at h
   refine ⟨Z1 ?_, _, List.getElem_mem hlt, hb⟩
   simp only [Qb.s1, Z2, Zg hlt, h, ob_s, Zdu]
   rw [if_pos (by omega), Z0 (by omega)]
  ·rw [show ((0 : Nat) : Int) = 0 from rfl] at h3
   have hstep : Qb.s1 g g (g.length : Int) (i : Int) dps usr g = some (.inl ((i : Int) + 1, d', u', g)) := by
    simp only [Qb.s1, Z2, Zg hlt, h3, ob_s, Z4z]
    rw [if_pos (by omega), Z0 (by omega), Ze (by omega) (by omega)]
   rcases ih (i + 1) d' u' (by omega) (by omega) h4.next with ⟨h, hb⟩ | ⟨d2, u2, h6, h7, h8⟩
   ·exact .inl ⟨(Z4 hstep).trans h, hb⟩
   ·refine .inr ⟨d2, u2, (Z4 hstep).trans h6, h7, fun n' hn' => ?_⟩
    rw [List.drop_eq_getElem_cons hlt] at hn'
    rcases List.mem_cons.1 hn' with rfl | hn'
    ·simpa using h5
    ·exact h8 n' hn'
def Bad (g : List Nd) : Prop := 1000 < g.length ∨ (∃ n ∈ g, Q17.f n ≠ some 0) ∨ ¬ Rising (labs g) ∨ ∃ n ∈ g, ∃ s ∈ n.2.2.1, posI g s < 0
def ChkP (g : List Nd) (k : Nat) : Prop := ((∃ f : Int, f ≠ 0 ∧ Qb.l0 g g (g.length : Int) (k : Int) = some (.inl (none, f))) ∧ Bad g) ∨
  (Qb.l0 g g (g.length : Int) (k : Int) = some (.inr ()) ∧ (∀ n ∈ g.drop k, Q17.f n = some 0 ∧ n.2.2.1.length ≤ 300 ∧ Rising n.2.2.1 ∧ 0 ≤ n.2.2.2.2.2 ∧ n.2.2.2.2.2 ≤ 1000000) ∧ ∀ i : Nat, ∀ h : i + 1 < g.length, k ≤ i + 1 → cmpS (g[i]'(by omega)).1 g[i + 1].1 < 0)
theorem openChk {g : List Nd} (hl : g.length ≤ 1000) (hs : ∀ n ∈ g, szNd n) : ∀ (n k : Nat), g.length - k = n → k ≤ g.length → ChkP g k := by
 intro n
 induction n with
 | zero =>
  intro k hn hk
  refine .inr ⟨Z1 ?_, fun s hs => ?_, fun i h hki => by omega⟩
  ·simp only [Qb.s0, Z2]
   rw [if_neg (by omega)]
  ·rw [List.drop_eq_nil_of_le (by omega)] at hs; cases hs
 | succ n ih =>
  intro k hn hk
  have hlt : k < g.length := by omega
  obtain ⟨f, h1, h2⟩ := Z8p (hs _ (List.getElem_mem hlt))
  by_cases hf : f = 0
  ·subst hf
   have cont : (∀ h0 : 0 < k, ¬ cmpS g[k].1 (g[k - 1]'(by omega)).1 ≤ 0) → Qb.s0 g g (g.length : Int) (k : Int) = some (.inl ((k : Int) + 1)) → ChkP g k := fun hc hstep => by
    rcases ih (k + 1) (by omega) (by omega) with ⟨⟨f, h3, h4⟩, hb⟩ | ⟨h3, h4, h5⟩
    ·exact .inl ⟨⟨f, h3, (Z4 hstep).trans h4⟩, hb⟩
    ·refine .inr ⟨(Z4 hstep).trans h3, fun n' hn' => ?_, fun i hi hki => ?_⟩
     ·rw [List.drop_eq_getElem_cons hlt] at hn'
      rcases List.mem_cons.1 hn' with rfl | hn'
      ·have := h2 rfl; exact ⟨h1, this.1, this.2.1, this.2.2.1, this.2.2.2.1⟩
      ·exact h4 n' hn'
     ·rcases Nat.lt_or_ge i k with h6 | h6
      ·have e : k = i + 1 := by omega
       subst e
       have h7 := hc (by omega)
       have h8 : ¬ cmpS g[i + 1].1 (g[i]'(by omega)).1 ≤ 0 := h7
       have := Z3e g[i + 1].1 (g[i]'(by omega)).1
       omega
      ·exact h5 i hi (by omega)
   rcases Nat.eq_zero_or_pos k with h0 | h0
   ·subst h0
    refine cont (fun h => absurd h (Nat.lt_irrefl _)) ?_
    simp only [Qb.s0, Z2, Zg hlt, h1, ob_s, decide_true, Bool.not_true, cb_f]
    rw [if_pos (by omega), Z0 (by omega), if_neg (by omega), Ze (by omega) (by omega)]
   ·obtain ⟨k', rfl⟩ : ∃ k', k = k' + 1 := ⟨k - 1, by omega⟩
    have hk' : k' < g.length := by omega
    have e : ((k' + 1 : Nat) : Int) - 1 = (k' : Int) := by omega
    by_cases hc : cmpS g[k' + 1].1 g[k'].1 ≤ 0
    ·refine .inl ⟨⟨8, by decide, Z1 ?_⟩, .inr (.inr (.inl fun hr => by
      have h9 := hr k' (k' + 1) (by unfold labs; simpa using hlt) (Nat.lt_succ_self _)
      rw [Z2t hk', Z2t hlt] at h9
      have := Z3e g[k'].1 g[k' + 1].1
      omega))⟩
     simp only [Qb.s0, Z2, Zg hlt, h1, ob_s, decide_true, Bool.not_true, cb_f, e, Zg hk', Z1y]
     rw [if_pos (by omega), Z0 (by omega), if_pos (by omega), Ze (by omega) (by omega), Z0 (by omega), if_pos hc]
    ·refine cont (fun _ => hc) ?_
     simp only [Qb.s0, Z2, Zg hlt, h1, ob_s, decide_true, Bool.not_true, cb_f, e, Zg hk', Z1y]
     rw [if_pos (by omega), Z0 (by omega), if_pos (by omega), Ze (by omega) (by omega), Z0 (by omega), if_neg hc, Ze (by omega) (by omega)]
  ·refine .inl ⟨⟨f, hf, Z1 ?_⟩, .inr (.inl ⟨_, List.getElem_mem hlt, by rw [h1]; exact fun e => hf (Option.some.inj e)⟩)⟩
   simp only [Qb.s0, Z2, Zg hlt, h1, ob_s]
   rw [if_pos (by omega), Z0 (by omega), decide_eq_false hf]
   rfl
theorem Inv.ends {g : List Nd} {dps usr : List (List Int)} (h : Inv g g.length 0 dps usr) : dps = Z3q g ∧ usr = Z1c g := by
 constructor
 ·apply List.ext_getElem (by rw [h.dl]; simp [Z3q])
  intro q h1 h2
  have hq : q < g.length := by rw [← h.dl]; exact h1
  have := h.d q hq
  rw [if_pos hq] at this
  rw [List.getD, List.getElem?_eq_getElem h1, Option.getD_some] at this
  rw [this]
  simp [D, List.getD, h2]
 ·apply List.ext_getElem (by rw [h.ul]; simp [Z1c])
  intro q h1 h2
  have hq : q < g.length := by rw [← h.ul]; exact h1
  have := h.u q hq
  rw [List.getD, List.getElem?_eq_getElem h1, Option.getD_some, List.take_zero] at this
  rw [this]
  simp [Z1c]
theorem Zio {g : List Nd} (hs : ∀ n ∈ g, szNd n) : ((∃ f : Int, f ≠ 0 ∧ Qb.f g = some (none, f)) ∧ Bad g) ∨ ((Right g ∧ Qb.f g = some (some (g, (Z3q g, Z1c g)), 0)) ∧ ∀ n ∈ g, Q17.f n = some 0) := by
 unfold Qb.f
 simp only [Z2]
 by_cases hl : (1000 : Int) < ((g.length : Nat) : Int)
 ·rw [if_pos hl]; exact .inl ⟨⟨2, by decide, rfl⟩, .inl (by omega)⟩
 ·rw [if_neg hl]
  have h1 := openChk (g := g) (by omega) hs g.length 0 (by omega) (by omega)
  unfold ChkP at h1
  rw [show ((0 : Nat) : Int) = 0 from rfl] at h1
  rcases h1 with ⟨⟨f, h2, h3⟩, hb⟩ | ⟨h2, h3, h4⟩
  ·rw [h3]; exact .inl ⟨⟨f, h2, rfl⟩, hb⟩
  ·rw [h2]
   simp only [ob_s, Z4z, Int.toNat_natCast, mix_eq]
   have hlab : Rising (labs g) := Z3j fun k hk => by
    have hk' : k + 1 < g.length := by unfold labs at hk; simpa using hk
    rw [Z2t (by omega), Z2t hk']
    exact h4 k hk' (by omega)
   have hnd : ∀ n ∈ g, n.2.2.1.length ≤ 300 ∧ Rising n.2.2.1 ∧ 0 ≤ n.2.2.2.2.2 ∧ n.2.2.2.2.2 ≤ 1000000 := fun n hn => (h3 n (by simpa using hn)).2
   have c : 0 ≤ ((g.length : Nat) : Int) ∧ ((g.length : Nat) : Int) * 24 ≤ 140737488355328 := by omega
   have inv0 : Inv g 0 0 (List.replicate g.length []) (List.replicate g.length []) := by
    refine ⟨by simp, by simp, fun q hq => ?_, fun k hk => ?_⟩
    ·rw [if_neg (by omega)]
     have : (List.replicate g.length ([] : List Int)).getD q [] = [] := by rw [List.getD, List.getElem?_replicate, if_pos hq]; rfl
     rw [this]
     split <;> rfl
    ·have : (List.replicate g.length ([] : List Int)).getD k [] = [] := by rw [List.getD, List.getElem?_replicate, if_pos hk]; rfl
     rw [this]
     simp [U]
   have h5 := openOut (g := g) (by omega) hlab (fun n hn => ⟨(hnd n hn).1, (hnd n hn).2.1⟩) g.length 0 _ _ (by omega) (by omega) inv0
   rw [show ((0 : Nat) : Int) = 0 from rfl, List.drop_zero] at h5
   simp only [Z0 c]
   rcases h5 with ⟨h5, hb⟩ | ⟨d', u', h5, h6, h7⟩
   ·rw [h5]; simp only [ob_s, Zdu, Z5s]; exact .inl ⟨⟨9, by decide, rfl⟩, .inr (.inr (.inr hb))⟩
   ·rw [h5]; simp only [ob_s, Z4z, Z5s]
    obtain ⟨rfl, rfl⟩ := h6.ends
    exact .inr ⟨⟨⟨by omega, hlab, hnd, h7⟩, rfl⟩, fun n hn => (h3 n (by simpa using hn)).1⟩
section
variable {g : List Nd}
theorem Right.D_mem (h : Right g) {i : Nat} (hi : i < g.length) {x : Int} (hx : x ∈ D g i) : ∃ d : Nat, x = d ∧ d < g.length := by
 rw [Zcw hi] at hx
 obtain ⟨s, hs, rfl⟩ := List.mem_map.1 hx
 rcases (h.at s).2 with ⟨h1, _⟩ | ⟨d, h1, h2, _⟩
 ·have := h.dep _ (List.getElem_mem hi) s hs; omega
 ·exact ⟨d, h1, h2⟩
def Ed (g : List Nd) (i d : Nat) : Prop := i < g.length ∧ (d : Int) ∈ D g i
theorem Zi2 {i k : Nat} {x : Int} : x ∈ U g i k ↔ ∃ q : Nat, x = q ∧ q < i ∧ (k : Int) ∈ D g q := by
 unfold U
 simp only [List.mem_map, List.mem_filter, List.mem_range, decide_eq_true_eq]
 constructor
 ·rintro ⟨q, ⟨h1, h2⟩, rfl⟩; exact ⟨q, rfl, h1, h2⟩
 ·rintro ⟨q, rfl, h1, h2⟩; exact ⟨q, ⟨h1, h2⟩, rfl⟩
end
end Go.Proofs.YtcphmeggalaplaaDoor
set_option linter.unusedVariables false
set_option linter.unusedSimpArgs false
namespace Go.Proofs.YtcphmeggalaplaaDoor
open Go Go.Proofs.YtcphmeggalaplaaDoor.Eng
abbrev ints (L : List Nat) : List Int := L.map fun x : Nat => (x : Int)
theorem Z5e {L : List Nat} {k : Nat} : (k : Int) ∈ ints L ↔ k ∈ L := by
 simp only [ints, List.mem_map]
 constructor
 ·rintro ⟨x, hx, he⟩
  have : x = k := by omega
  exact this ▸ hx
 ·exact fun h => ⟨k, h, rfl⟩
def cnt (l : List Int) (L : List Nat) : Nat := (l.filter fun x => decide (x ∉ ints L)).length
theorem cnt_le (l : List Int) (L : List Nat) : cnt l L ≤ l.length := List.length_filter_le _ _
theorem cnt_pos {l : List Int} {L : List Nat} (h : 0 < cnt l L) : ∃ x, x ∈ l ∧ x ∉ ints L := by
 unfold cnt at h
 obtain ⟨x, hx⟩ := List.exists_mem_of_length_pos h
 rw [List.mem_filter] at hx
 exact ⟨x, hx.1, of_decide_eq_true hx.2⟩
theorem Zjd {l : List Int} {L : List Nat} (h : cnt l L = 0) : ∀ x ∈ l, x ∈ ints L := by
 intro x hx
 refine Classical.byContradiction fun hn => ?_
 unfold cnt at h
 have := List.eq_nil_of_length_eq_zero h
 have hm : x ∈ l.filter fun x => decide (x ∉ ints L) := List.mem_filter.2 ⟨hx, decide_eq_true hn⟩
 rw [this] at hm
 cases hm
theorem Zhj {k : Nat} {L : List Nat} (hk : k ∉ L) : ∀ {l : List Int}, l.Nodup → cnt l L = cnt l (L ++ [k]) + (if (k : Int) ∈ l then 1 else 0)
 | [], _ => by simp [cnt]
 | x :: l, hn => by
  rw [List.nodup_cons] at hn
  have ih := Zhj hk hn.2
  have e : ∀ M : List Nat, cnt (x :: l) M = (if x ∈ ints M then 0 else 1) + cnt l M := fun M => by
   unfold cnt
   rw [List.filter_cons]
   by_cases h : x ∈ ints M
   ·simp [h]
   ·simp [h]; omega
  rw [e, e, ih]
  have hin : x ∈ ints (L ++ [k]) ↔ x ∈ ints L ∨ x = (k : Int) := by
   simp only [ints, List.map_append, List.mem_append, List.map_cons, List.map_nil, List.mem_singleton]
  by_cases hx : x = (k : Int)
  ·subst hx
   have h1 : ¬ (k : Int) ∈ ints L := fun h => hk (Z5e.1 h)
   rw [if_neg h1, if_pos (hin.2 (.inr rfl)), if_neg hn.1, if_pos (List.mem_cons_self ..)]
   omega
  ·have h2 : ((k : Int) ∈ x :: l) ↔ (k : Int) ∈ l := by
    rw [List.mem_cons]
    exact ⟨fun h => h.resolve_left (fun e => hx e.symm), .inr⟩
   by_cases h1 : x ∈ ints L
   ·rw [if_pos h1, if_pos (hin.2 (.inl h1))]
    by_cases h3 : (k : Int) ∈ l
    ·rw [if_pos h3, if_pos (h2.2 h3)]; omega
    ·rw [if_neg h3, if_neg (fun h => h3 (h2.1 h))]; omega
   ·rw [if_neg h1, if_neg (fun h => (hin.1 h).elim h1 hx)]
    by_cases h3 : (k : Int) ∈ l
    ·rw [if_pos h3, if_pos (h2.2 h3)]; omega
    ·rw [if_neg h3, if_neg (fun h => h3 (h2.1 h))]; omega
section
variable {g : List Nd}
theorem Right.nodup (h : Right g) {i : Nat} (hi : i < g.length) : (D g i).Nodup := by
 rw [List.Nodup, List.pairwise_iff_getElem]
 intro a b ha hb hab e
 have hbl : b < g[i].2.2.1.length := by rw [Zcw hi, List.length_map] at hb; exact hb
 obtain ⟨d, h1, h2⟩ := h.D_mem hi (List.getElem_mem hb)
 have hp : posI g g[i].2.2.1[b] = (d : Int) := by rw [← h1]; simp [Zcw hi]
 have := Zi3 h.len h.lab hi (h.nd _ (List.getElem_mem hi)).2.1 hbl hp
 refine this ?_
 rw [← h1, ← e]
 rw [List.mem_iff_getElem]
 exact ⟨a, by simp; omega, by rw [List.getElem_take]⟩
theorem Z9q {α β : Type} {f : α → β} {R : α → α → Prop} {S : β → β → Prop} (hf : ∀ a b, R a b → S (f a) (f b)) {l : List α} (h : l.Pairwise R) : (l.map f).Pairwise S :=
 List.pairwise_map.2 (h.imp fun {a b} => hf a b)
theorem len_le : ∀ {M L : List Nat}, L.Nodup → (∀ x ∈ L, x ∈ M) → L.length ≤ M.length
 | [], L, _, h => by
  cases L with
  | nil => exact Nat.le_refl _
  | cons a l => cases h a (List.mem_cons_self ..)
 | m :: M, L, hn, h => by
  have h1 : (L.erase m).Nodup := hn.erase m
  have h2 := len_le (M := M) h1 (fun x hx => by
   rcases List.mem_cons.1 (h x (List.mem_of_mem_erase hx)) with he | he
   ·subst he
    exact absurd hx (hn.not_mem_erase)
   ·exact he)
  have h3 : L.length ≤ (L.erase m).length + 1 := by
   by_cases hm : m ∈ L
   ·rw [List.length_erase_of_mem hm]; omega
   ·rw [List.erase_of_not_mem hm]; omega
  simp only [List.length_cons]; omega
theorem U_nodup (i k : Nat) : (U g i k).Nodup := by
 unfold U
 exact Z9q (fun a b h e => h (by omega)) (List.nodup_range.filter _)
theorem Zj5 (left : List Int) (done : List Bool) (out : List Int) (hd : done.length = left.length) (hl : left.length ≤ 1000) : ∀ (n k : Nat), left.length - k = n → k ≤ left.length → (∀ q : Nat, q < k → done.getD q false = true ∨ 0 < left.getD q 0) →
  ∃ c : Nat, Q3.l2 (k : Int) left done out = some ((c : Int), left, done, out) ∧ c ≤ left.length ∧ (∀ q : Nat, q < c → done.getD q false = true ∨ 0 < left.getD q 0) ∧ (c < left.length → done.getD c false = false ∧ ¬ 0 < left.getD c 0) := by
 intro n
 induction n with
 | zero =>
  intro k hn hk hb
  refine ⟨k, Z1 ?_, hk, hb, fun h => by omega⟩
  simp only [Q3.s2, Z2]
  rw [if_neg (by omega)]
 | succ n ih =>
  intro k hn hk hb
  have hlt : k < left.length := by omega
  by_cases hstop : done.getD k false = false ∧ ¬ 0 < left.getD k 0
  ·refine ⟨k, Z1 ?_, hk, hb, fun _ => hstop⟩
   simp only [Q3.s2, Z2, Int.toNat_natCast]
   rw [if_pos (by omega), Z0 (by omega), Z0 (by omega), hstop.1, cb_f, Z0 (by omega), Z0 hlt, if_neg hstop.2]
  ·obtain ⟨c, h1, h2⟩ := ih (k + 1) (by omega) (by omega) (fun q hq => by
    rcases Nat.lt_or_ge q k with h | h
    ·exact hb q h
    ·have : q = k := by omega
     subst this
     cases hc : done.getD q false with
     | true => exact .inl rfl
     | false => exact .inr (Classical.byContradiction fun h => hstop ⟨hc, h⟩))
   refine ⟨c, (Z4 ?_).trans h1, h2⟩
   simp only [Q3.s2, Z2, Int.toNat_natCast]
   rw [if_pos (by omega), Z0 (by omega), Z0 (by omega)]
   cases hc : done.getD k false with
   | true => rw [cb_t, Ze (by omega) (by omega)]; rfl
   | false =>
    rw [cb_f, Z0 (by omega), Z0 hlt, if_pos (Classical.byContradiction fun h => hstop ⟨hc, h⟩), Ze (by omega) (by omega)]; rfl
theorem Zi8 (h : Right g) {L : List Nat} {k : Nat} (hk : k < g.length) (hkL : k ∉ L) (done : List Bool) (out o3 : List Int) :
  ∀ (n j : Nat) (left : List Int), (U g g.length k).length - j = n → j ≤ (U g g.length k).length → left.length = g.length → (∀ u : Nat, u < g.length → left.getD u 0 = (cnt (D g u) L : Int) - (if (u : Int) ∈ (U g g.length k).take j then 1 else 0)) →
   ∃ left', Q3.l3 (U g g.length k) ((U g g.length k).length : Int) (j : Int) left done out o3 = some (left', done, out, o3) ∧ left'.length = g.length ∧ ∀ u : Nat, u < g.length → left'.getD u 0 = (cnt (D g u) (L ++ [k]) : Int) := by
 have hU := Zjk g g.length k
 have hgl := h.len
 intro n
 induction n with
 | zero =>
  intro j left hn hj hl hv
  refine ⟨left, Z1 ?_, hl, fun u hu => ?_⟩
  ·simp only [Q3.s3, Z2]
   rw [if_neg (by omega)]
  ·have h1 := hv u hu
   rw [List.take_of_length_le (by omega)] at h1
   have h2 := Zhj hkL (h.nodup hu)
   by_cases hm : (k : Int) ∈ D g u
   ·rw [if_pos hm] at h2
    rw [if_pos (Zi2.2 ⟨u, rfl, hu, hm⟩)] at h1
    omega
   ·rw [if_neg hm] at h2
    rw [if_neg (fun hx => by
     obtain ⟨q, h3, h4, h5⟩ := Zi2.1 hx
     have : q = u := by omega
     exact hm (this ▸ h5))] at h1
    omega
 | succ n ih =>
  intro j left hn hj hl hv
  have hlt : j < (U g g.length k).length := by omega
  obtain ⟨u, hu1, hu2, hu3⟩ := Zi2.1 (List.getElem_mem hlt)
  have hnm : (u : Int) ∉ (U g g.length k).take j := fun hm => by
   obtain ⟨q, hq, he⟩ := List.getElem_of_mem hm
   have hql : q < j := by have := hq; simp at this; omega
   rw [List.getElem_take] at he
   have hnd := U_nodup (g := g) g.length k
   rw [List.Nodup, List.pairwise_iff_getElem] at hnd
   exact hnd q j (by omega) hlt hql (by rw [he, hu1])
  have hv0 := hv u hu2
  rw [if_neg hnm] at hv0
  have hcl := cnt_le (D g u) L
  have hDl : (D g u).length ≤ 300 := by rw [Zcw hu2, List.length_map]; exact (h.nd _ (List.getElem_mem hu2)).1
  obtain ⟨left', h1, h2, h3⟩ := ih (j + 1) (left.set u (left.getD u 0 - 1)) (by omega) (by omega) (by simpa using hl) (fun q hq => by
   rw [getD_set _ _ _ _ _ (by omega), List.take_succ_eq_append_getElem hlt]
   by_cases hqu : q = u
   ·subst hqu
    rw [if_pos rfl, hv0, if_pos (by simp [hu1])]
    omega
   ·rw [if_neg hqu, hv q hq]
    have e : (q : Int) ∈ (U g g.length k).take j ++ [(U g g.length k)[j]] ↔ (q : Int) ∈ (U g g.length k).take j := by
     rw [List.mem_append, List.mem_singleton, hu1]
     exact ⟨fun h => h.resolve_right (fun e => hqu (by omega)), .inl⟩
    by_cases hm : (q : Int) ∈ (U g g.length k).take j
    ·rw [if_pos hm, if_pos (e.2 hm)]
    ·rw [if_neg hm, if_neg (fun h => hm (e.1 h))])
  refine ⟨left', (Z4 ?_).trans h1, h2, h3⟩
  simp only [Q3.s3, Z2, Zg hlt, hu1, Int.toNat_natCast]
  rw [if_pos (by omega), Z0 (by omega), Z0 (by omega), Z0 (by omega), Ze (by omega) (by omega), Z0 (by omega), Z0 (by omega), Ze (by omega) (by omega)]
  rfl
structure Ord (g : List Nd) (L : List Nat) : Prop where
 nodup : L.Nodup
 lt : ∀ x ∈ L, x < g.length
 dep : ∀ p : Nat, ∀ hp : p < L.length, ∀ d : Nat, Ed g L[p] d → d ∈ L.take p
theorem Z1u {n : Nat} {L : List Nat} (hn : L.Nodup) (hl : ∀ x ∈ L, x < n) : L.length ≤ n := by
 have h := len_le (M := List.range n) hn (fun x hx => List.mem_range.2 (hl x hx))
 simpa using h
theorem missing {n : Nat} {L : List Nat} (hl : L.length < n) : ∃ x, x < n ∧ x ∉ L := by
 refine Classical.byContradiction fun hno => ?_
 have this := len_le (M := L) (List.nodup_range (n := n)) (fun x hx => Classical.byContradiction fun h => hno ⟨x, List.mem_range.1 hx, h⟩)
 simp at this
 omega
theorem Zc1 {L : List Nat} (h : L.Nodup) {i j : Nat} (hi : i < L.length) (hj : j < L.length) (e : L[i] = L[j]) : i = j := by
 rw [List.Nodup, List.pairwise_iff_getElem] at h
 rcases Nat.lt_trichotomy i j with h1 | h1 | h1
 ·exact absurd e (h i j hi hj h1)
 ·exact h1
 ·exact absurd e.symm (h j i hj hi h1)
theorem Zgc (h : Right g) : ∀ (n : Nat) (L : List Nat) (left : List Int) (done : List Bool), g.length - L.length = n → Ord g L → left.length = g.length → done.length = g.length → (∀ k : Nat, k < g.length → done.getD k false = decide (k ∈ L)) → (∀ u : Nat, u < g.length → left.getD u 0 = (cnt (D g u) L : Int)) →
  (∃ R : List Nat, R ≠ [] ∧ (∀ x ∈ R, ∃ y, y ∈ R ∧ Ed g x y) ∧ Q3.l1 (some (g, (Z3q g, Z1c g))) left done (ints L) = some (.inl ([], false))) ∨
  ∃ L' left' done', Ord g L' ∧ L'.length = g.length ∧ Q3.l1 (some (g, (Z3q g, Z1c g))) left done (ints L) = some (.inr (left', done', ints L')) := by
 intro n
 induction n with
 | zero =>
  intro L left done hn ho hl hd hdv hlv
  have := Z1u ho.nodup ho.lt
  refine .inr ⟨L, left, done, ho, by omega, Z1 ?_⟩
  simp only [Q3.s1, Z2, Option.isSome_some, Option.getD_some, List.length_map]
  rw [Z0 trivial, if_neg (by omega)]
 | succ n ih =>
  intro L left done hn ho hl hd hdv hlv
  have hgl := h.len
  have hlen := Z1u ho.nodup ho.lt
  obtain ⟨c, h1, h2, h3, h4⟩ := Zj5 left done (ints L) (by omega) (by omega) left.length 0 (by omega) (by omega) (fun q hq => by omega)
  rw [show ((0 : Nat) : Int) = 0 from rfl] at h1
  by_cases hc : c = left.length
  ·left
   refine ⟨(List.range g.length).filter fun x => decide (x ∉ L), fun he => ?_, fun x hx => ?_, Z1 ?_⟩
   ·obtain ⟨x, hx1, hx2⟩ := missing (n := g.length) (L := L) (by omega)
    have : x ∈ (List.range g.length).filter fun x => decide (x ∉ L) := List.mem_filter.2 ⟨List.mem_range.2 hx1, decide_eq_true hx2⟩
    rw [he] at this; cases this
   ·rw [List.mem_filter, List.mem_range, decide_eq_true_eq] at hx
    have h5 := h3 x (by omega)
    rw [hdv x hx.1, hlv x hx.1] at h5
    rcases h5 with h5 | h5
    ·exact absurd (of_decide_eq_true h5) hx.2
    ·obtain ⟨y, hy1, hy2⟩ := cnt_pos (l := D g x) (L := L) (by omega)
     obtain ⟨d, rfl, hd'⟩ := h.D_mem hx.1 hy1
     exact ⟨d, List.mem_filter.2 ⟨List.mem_range.2 hd', decide_eq_true (fun hm => hy2 (Z5e.2 hm))⟩, hx.1, hy1⟩
   ·simp only [Q3.s1, Z2, Option.isSome_some, Option.getD_some, List.length_map]
    rw [Z0 trivial, if_pos (by omega), h1, ob_s]
    simp only
    rw [if_pos (by rw [hc])]
  ·have hcl : c < g.length := by omega
   obtain ⟨h5, h6⟩ := h4 (by omega)
   rw [hdv c hcl] at h5
   rw [hlv c hcl] at h6
   have hcL : c ∉ L := of_decide_eq_false h5
   have hUl := Zjk g g.length c
   have hug : (Z1c g).length = g.length := by simp [Z1c]
   have hur : rd ([] : List Int) (Z1c g) (c : Int) = U g g.length c := by
    rw [Zg (by rw [hug]; exact hcl)]
    simp [Z1c]
   obtain ⟨left', h7, h8, h9⟩ := Zi8 h hcl hcL (done.set c true) (ints L ++ [(c : Int)]) [(c : Int)] _ 0 left rfl (Nat.zero_le _) hl (fun u hu => by rw [hlv u hu, List.take_zero, if_neg (by simp)]; omega)
   rw [show ((0 : Nat) : Int) = 0 from rfl] at h7
   have ho' : Ord g (L ++ [c]) := by
    refine ⟨?_, fun x hx => ?_, fun p hp d he => ?_⟩
    ·rw [List.nodup_append]
     refine ⟨ho.nodup, by simp, fun a ha b hb => ?_⟩
     rw [List.mem_singleton.1 hb]
     exact fun e => hcL (e ▸ ha)
    ·rcases List.mem_append.1 hx with h | h
     ·exact ho.lt x h
     ·rw [List.mem_singleton.1 h]; exact hcl
    ·rcases Nat.lt_or_ge p L.length with hpl | hpl
     ·rw [List.getElem_append_left hpl] at he
      rw [List.take_append_of_le_length (by omega)]
      exact ho.dep p hpl d he
     ·have hpe : p = L.length := by simp at hp; omega
      subst hpe
      rw [List.getElem_append_right (Nat.le_refl _)] at he
      simp only [Nat.sub_self, List.getElem_cons_zero] at he
      rw [List.take_append_of_le_length (Nat.le_refl _), List.take_of_length_le (Nat.le_refl _)]
      have hz : cnt (D g c) L = 0 := by omega
      exact Z5e.1 (Zjd hz _ he.2)
   have hint : ints (L ++ [c]) = ints L ++ [(c : Int)] := by simp [ints]
   have hstep : Q3.s1 (some (g, (Z3q g, Z1c g))) left done (ints L) = some (.inl (left', done.set c true, ints (L ++ [c]))) := by
    simp only [Q3.s1, Z2, Option.isSome_some, Option.getD_some, List.length_map]
    rw [Z0 trivial, if_pos (by omega), h1, ob_s]
    simp only [Int.toNat_natCast]
    rw [if_neg (by omega), Z0 (by omega), Z0 (by omega), Z0 (by simp only [List.length_cons, List.length_nil, List.length_map]; omega), Z0 trivial, Z0 (by rw [hug]; omega), hur, h7, ob_s, hint]
   rcases ih (L ++ [c]) left' (done.set c true) (by simp; omega) ho' h8 (by simpa using hd) (fun q hq => by
    rw [getD_set _ _ _ _ _ (by omega)]
    by_cases hqc : q = c
    ·subst hqc; rw [if_pos rfl]; simp
    ·rw [if_neg hqc, hdv q hq]
     exact decide_eq_decide.2 (by simp [hqc])) h9 with ⟨R, r1, r2, r3⟩ | ⟨L', l', d', r1, r2, r3⟩
   ·exact .inl ⟨R, r1, r2, (Z4 hstep).trans r3⟩
   ·exact .inr ⟨L', l', d', r1, r2, (Z4 hstep).trans r3⟩
theorem Ziz (h : Right g) : ∀ (n i : Nat) (left : List Int), g.length - i = n → i ≤ g.length → left.length = g.length → (∀ u : Nat, u < g.length → left.getD u 0 = if u < i then ((D g u).length : Int) else 0) →
  ∃ left', Q3.l0 (Z3q g) ((Z3q g).length : Int) (i : Int) left = some left' ∧ left'.length = g.length ∧ ∀ u : Nat, u < g.length → left'.getD u 0 = ((D g u).length : Int) := by
 have hdl : (Z3q g).length = g.length := by simp [Z3q]
 have hgl := h.len
 intro n
 induction n with
 | zero =>
  intro i left hn hi hl hv
  refine ⟨left, Z1 ?_, hl, fun u hu => by rw [hv u hu, if_pos (by omega)]⟩
  simp only [Q3.s0, Z2]
  rw [if_neg (by omega)]
 | succ n ih =>
  intro i left hn hi hl hv
  have hlt : i < (Z3q g).length := by omega
  have hD : (Z3q g)[i] = D g i := by simp [D, List.getD, hlt]
  obtain ⟨l', h1, h2, h3⟩ := ih (i + 1) (left.set i ((D g i).length : Int)) (by omega) (by omega) (by simpa using hl) (fun u hu => by
   rw [getD_set _ _ _ _ _ (by omega)]
   by_cases hui : u = i
   ·subst hui; rw [if_pos rfl, if_pos (by omega)]
   ·rw [if_neg hui, hv u hu]
    by_cases h4 : u < i
    ·rw [if_pos h4, if_pos (by omega)]
    ·rw [if_neg h4, if_neg (by omega)])
  refine ⟨l', (Z4 ?_).trans h1, h2, h3⟩
  simp only [Q3.s0, Z2, Zg hlt, hD, Int.toNat_natCast]
  rw [if_pos (by omega), Z0 (by omega), Z0 (by omega), Z0 (by omega), Ze (by omega) (by omega)]
  rfl
theorem Zin (h : Right g) : (∃ R : List Nat, R ≠ [] ∧ (∀ x ∈ R, ∃ y, y ∈ R ∧ Ed g x y) ∧ Q3.f (some (g, (Z3q g, Z1c g))) = some ([], false)) ∨
  ∃ L, Ord g L ∧ L.length = g.length ∧ Q3.f (some (g, (Z3q g, Z1c g))) = some (ints L, true) := by
 have hgl := h.len
 obtain ⟨left, h1, h2, h3⟩ := Ziz h g.length 0 (List.replicate g.length 0) (by omega) (by omega) (by simp) (fun u hu => by
  rw [if_neg (by omega), List.getD, List.getElem?_replicate, if_pos hu]; rfl)
 rw [show ((0 : Nat) : Int) = 0 from rfl] at h1
 have h4 := Zgc h g.length [] left (List.replicate g.length false) (by simp) ⟨List.nodup_nil, (fun x hx => by cases hx), fun p hp => absurd hp (Nat.not_lt_zero _)⟩ h2 (by simp) (fun k hk => by
  rw [List.getD, List.getElem?_replicate, if_pos hk]; simp) (fun u hu => by
  rw [h3 u hu]
  have : cnt (D g u) [] = (D g u).length := by simp [cnt, ints]
  rw [this])
 unfold Q3.f
 simp only [Option.isSome_some, Option.getD_some, Int.toNat_natCast]
 rw [Z0 trivial, Z0 (by omega), Z0 trivial, h1, ob_s, Z0 trivial, Z0 (by omega)]
 rcases h4 with ⟨R, r1, r2, r3⟩ | ⟨L', l', d', r1, r2, r3⟩
 ·left
  refine ⟨R, r1, r2, ?_⟩
  have r3' : Q3.l1 (some (g, (Z3q g, Z1c g))) left (List.replicate g.length false) [] = _ := r3
  rw [r3']; rfl
 ·right
  refine ⟨L', r1, r2, ?_⟩
  have r3' : Q3.l1 (some (g, (Z3q g, Z1c g))) left (List.replicate g.length false) [] = _ := r3
  rw [r3']; rfl
end
end Go.Proofs.YtcphmeggalaplaaDoor
set_option linter.unusedVariables false
set_option linter.unusedSimpArgs false
namespace Go.Proofs.YtcphmeggalaplaaDoor
open Go Go.Proofs.YtcphmeggalaplaaDoor.Eng
abbrev ND0 : Nd := (ByteArray.empty, (ByteArray.empty, (([] : List ByteArray), (([] : List ByteArray), (([] : List ByteArray), (0 : Int))))))
theorem Ord.all {g : List Nd} {L : List Nat} (h : Ord g L) (hl : L.length = g.length) {i : Nat} (hi : i < g.length) : i ∈ L := by
 refine Classical.byContradiction fun hn => ?_
 have := Z1u (n := g.length) (L := i :: L) (List.nodup_cons.2 ⟨hn, h.nodup⟩) (fun x hx => by
  rcases List.mem_cons.1 hx with h' | h'
  ·rw [h']; exact hi
  ·exact h.lt x h')
 simp at this
 omega
end Go.Proofs.YtcphmeggalaplaaDoor
set_option linter.unusedVariables false
set_option linter.unusedSimpArgs false
namespace Go.Proofs.YtcphmeggalaplaaDoor
open Go Go.Proofs.YtcphmeggalaplaaDoor.Eng
noncomputable abbrev net (g : List Nd) : Option (List Nd × (List (List Int) × List (List Int))) := some (g, (Z3q g, Z1c g))
section
variable {g : List Nd}
end
end Go.Proofs.YtcphmeggalaplaaDoor
set_option linter.unusedVariables false
set_option linter.unusedSimpArgs false
namespace Go.Proofs.YtcphmeggalaplaaDoor
open Go Go.Proofs.YtcphmeggalaplaaDoor.Eng
section
variable {g : List Nd}
end
end Go.Proofs.YtcphmeggalaplaaDoor
set_option linter.unusedVariables false
set_option linter.unusedSimpArgs false
namespace Go.Proofs.YtcphmeggalaplaaDoor
open Go Go.Proofs.YtcphmeggalaplaaDoor.Eng
section
variable {g : List Nd}
end
end Go.Proofs.YtcphmeggalaplaaDoor
set_option linter.unusedVariables false
set_option linter.unusedSimpArgs false
namespace Go.Proofs.YtcphmeggalaplaaDoor
open Go Go.Proofs.YtcphmeggalaplaaDoor.Eng
def wt (g : List Nd) (k : Nat) : Int := (g.getD k ND0).2.2.2.2.2
theorem Zfj {g : List Nd} {k : Nat} (h : k < g.length) : wt g k = g[k].2.2.2.2.2 := by simp [wt, List.getD, h]
theorem wt_rd {g : List Nd} {k : Nat} (h : k < g.length) : (rd ND0 g (k : Int)).2.2.2.2.2 = wt g k := by rw [Zg h, Zfj h]
theorem wt_in {g : List Nd} (h : Right g) {k : Nat} (hk : k < g.length) : 0 ≤ wt g k ∧ wt g k ≤ 1000000 := by
 rw [Zfj hk]
 exact (h.nd _ (List.getElem_mem hk)).2.2
structure Sum (g : List Nd) (adj : List (List Int)) (s : List Int) : Prop where
 len : s.length = g.length
 up : ∀ k y : Nat, k < g.length → (y : Int) ∈ adj.getD k [] → wt g k + s.getD y 0 ≤ s.getD k 0
 low : ∀ k, k < g.length → wt g k ≤ s.getD k 0
 got : ∀ k, k < g.length → s.getD k 0 = wt g k ∨ ∃ y : Nat, (y : Int) ∈ adj.getD k [] ∧ s.getD k 0 = wt g k + s.getD y 0
 top : ∀ k, k < g.length → s.getD k 0 ≤ 2000000000
structure Sm (g : List Nd) (adj : List (List Int)) (L : List Nat) (p : Nat) (s : List Int) : Prop where
 len : s.length = g.length
 zero : ∀ k, k < g.length → k ∉ L.take p → s.getD k 0 = 0
 up : ∀ k y : Nat, k ∈ L.take p → (y : Int) ∈ adj.getD k [] → wt g k + s.getD y 0 ≤ s.getD k 0
 low : ∀ k, k ∈ L.take p → wt g k ≤ s.getD k 0
 got : ∀ k, k ∈ L.take p → s.getD k 0 = wt g k ∨ ∃ y : Nat, (y : Int) ∈ adj.getD k [] ∧ s.getD k 0 = wt g k + s.getD y 0
 top : ∀ k, k < g.length → 0 ≤ s.getD k 0 ∧ s.getD k 0 ≤ 1000000 * (p : Int)
section
variable {g : List Nd} {adj : List (List Int)} {L : List Nat}
theorem sumIn (hal : adj.length = g.length) (hgl : g.length ≤ 1000) {k : Nat} (hk : k < g.length) (hl : (adj.getD k []).length ≤ 1000000) {s : List Int} (hs : s.length = g.length) (h0 : s.getD k 0 = 0)
  (hA : ∀ y ∈ adj.getD k [], ∃ u : Nat, y = u ∧ u < g.length ∧ u ≠ k) :
  ∀ (n j : Nat) (t : List Int), (adj.getD k []).length - j = n → j ≤ (adj.getD k []).length → t.length = g.length → (∀ q, q < g.length → q ≠ k → t.getD q 0 = s.getD q 0) → 0 ≤ t.getD k 0 → (∀ y : Nat, (y : Int) ∈ (adj.getD k []).take j → s.getD y 0 ≤ t.getD k 0) →
   (t.getD k 0 = 0 ∨ ∃ y : Nat, (y : Int) ∈ adj.getD k [] ∧ t.getD k 0 = s.getD y 0) →
   ∃ t', Qe.l1 (k : Int) (adj.getD k []) ((adj.getD k []).length : Int) (j : Int) t = some t' ∧ t'.length = g.length ∧ (∀ q, q < g.length → q ≠ k → t'.getD q 0 = s.getD q 0) ∧ 0 ≤ t'.getD k 0 ∧ (∀ y : Nat, (y : Int) ∈ adj.getD k [] → s.getD y 0 ≤ t'.getD k 0) ∧
    (t'.getD k 0 = 0 ∨ ∃ y : Nat, (y : Int) ∈ adj.getD k [] ∧ t'.getD k 0 = s.getD y 0) := by
 intro n
 induction n with
 | zero =>
  intro j t hn hj ht h1 h2 h3 h4
  rw [List.take_of_length_le (by clear h4; omega)] at h3
  refine ⟨t, Z1 ?_, ht, h1, h2, h3, h4⟩
  simp only [Qe.s1, Z2]
  rw [if_neg (by clear h4; omega)]
 | succ n ih =>
  intro j t hn hj ht h1 h2 h3 h4
  have hlt : j < (adj.getD k []).length := by clear h4; omega
  obtain ⟨u, hu1, hu2, hu3⟩ := hA _ (List.getElem_mem hlt)
  have hm : (u : Int) ∈ adj.getD k [] := by rw [← hu1]; exact List.getElem_mem hlt
  have hn1 : (adj.getD k []).length - (j + 1) = n := by clear h4; omega
  have hj1 : j + 1 ≤ (adj.getD k []).length := by clear h4; omega
  have htu := h1 u hu2 hu3
  have hkt : k < t.length := by clear h4; omega
  obtain ⟨t', g1, g2⟩ := ih (j + 1) (t.set k (max (t.getD k 0) (t.getD u 0))) hn1 hj1 (by simpa using ht) (fun q hq hqk => by
    rw [getD_set _ _ _ _ _ hkt, if_neg hqk]; exact h1 q hq hqk) (by
    rw [getD_set _ _ _ _ _ hkt, if_pos rfl]; clear h4; omega) (fun y hy => by
    rw [getD_set _ _ _ _ _ hkt, if_pos rfl]
    rw [List.take_succ_eq_append_getElem hlt, List.mem_append, List.mem_singleton, hu1] at hy
    rcases hy with hy | hy
    ·have := h3 y hy; clear h4; omega
    ·have : y = u := by clear h4; omega
     subst this; clear h4; omega) (by
    rw [getD_set _ _ _ _ _ hkt, if_pos rfl]
    by_cases hc : t.getD k 0 ≤ t.getD u 0
    ·rw [Int.max_eq_right hc]
     exact .inr ⟨u, hm, htu⟩
    ·rw [Int.max_eq_left (by clear h4; omega)]
     exact h4)
  refine ⟨t', (Z4 ?_).trans g1, g2⟩
  clear h4
  simp only [Qe.s1, Z2, Zg hlt, hu1, Int.toNat_natCast]
  rw [if_pos (by omega), Z0 (by omega), Z0 (by omega), Z0 (by omega), Z0 (by omega), Z0 (by omega), Z0 (by omega), Z0 (by omega), Ze (by omega) (by omega)]
  rfl
theorem sumLoop (h : Right g) (dp us : List (List Int)) (hal : adj.length = g.length) (hL : L.Nodup) (hLt : ∀ x ∈ L, x < g.length) (hl : ∀ k, k < g.length → (adj.getD k []).length ≤ 1000000)
  (hA : ∀ p : Nat, ∀ hp : p < L.length, ∀ y ∈ adj.getD L[p] [], ∃ u : Nat, y = u ∧ u ∈ L.take p) :
  ∀ (n p : Nat) (s : List Int), L.length - p = n → p ≤ L.length → Sm g adj L p s → ∃ s', Qe.l0 (some (g, (dp, us))) adj (ints L) ((ints L).length : Int) (p : Int) s = some s' ∧ Sm g adj L L.length s' := by
 have hgl := h.len
 have hLl := Z1u hL hLt
 intro n
 induction n with
 | zero =>
  intro p s hn hp hs
  have e : p = L.length := by omega
  subst e
  refine ⟨s, Z1 ?_, hs⟩
  simp only [Qe.s0, Z2, List.length_map]
  rw [if_neg (by omega)]
 | succ n ih =>
  intro p s hn hp hs
  have hlt : p < L.length := by omega
  have hk := hLt _ (List.getElem_mem hlt)
  have hnot : L[p] ∉ L.take p := fun hm => by
   obtain ⟨q, hq, he⟩ := List.getElem_of_mem hm
   have hqp : q < p := by have := hq; simp at this; omega
   rw [List.getElem_take] at he
   have := Zc1 hL (by omega : q < L.length) hlt he
   omega
  have hsl := hs.len
  have hAk : ∀ y ∈ adj.getD L[p] [], ∃ u : Nat, y = u ∧ u < g.length ∧ u ≠ L[p] := fun y hy => by
   obtain ⟨u, h1, h2⟩ := hA p hlt y hy
   exact ⟨u, h1, hLt u (List.mem_of_mem_take h2), fun e => hnot (e ▸ h2)⟩
  have h0 := hs.zero _ hk hnot
  obtain ⟨t, t1, t2, t3, t4, t5, t6⟩ := sumIn hal hgl hk (hl _ hk) hsl h0 hAk _ 0 s rfl (Nat.zero_le _) hsl (fun q _ _ => rfl) (by omega) (fun y hy => by simp at hy) (.inl h0)
  rw [show ((0 : Nat) : Int) = 0 from rfl] at t1
  have hw := wt_in h hk
  have hg : ∀ q, (t.set L[p] (t.getD L[p] 0 + wt g L[p])).getD q 0 = if q = L[p] then t.getD L[p] 0 + wt g L[p] else t.getD q 0 := fun q => getD_set _ _ _ _ _ (by omega)
  have hgo : ∀ q, q < g.length → q ≠ L[p] → (t.set L[p] (t.getD L[p] 0 + wt g L[p])).getD q 0 = s.getD q 0 := fun q hq hqk => by rw [hg, if_neg hqk, t3 q hq hqk]
  have ht : ∀ q, q ∈ L.take (p + 1) ↔ q ∈ L.take p ∨ q = L[p] := fun q => by
   rw [List.take_succ_eq_append_getElem hlt, List.mem_append, List.mem_singleton]
  have hadj : ∀ q y : Nat, q ∈ L.take p → (y : Int) ∈ adj.getD q [] → y ∈ L.take p := fun q y hq hy => by
   obtain ⟨r, hr, he⟩ := List.getElem_of_mem hq
   have hrp : r < p := by have := hr; simp at this; omega
   rw [List.getElem_take] at he
   obtain ⟨u, h1, h2⟩ := hA r (by omega) (y : Int) (by rw [he]; exact hy)
   have : y = u := by omega
   subst this
   obtain ⟨r', hr', he'⟩ := List.getElem_of_mem h2
   have hrp' : r' < r := by have := hr'; simp at this; omega
   rw [List.getElem_take] at he'
   rw [← he']
   exact List.mem_take_iff_getElem.2 ⟨r', by omega, rfl⟩
  have hlt2 : ∀ q, q ∈ L.take p → q < g.length ∧ q ≠ L[p] := fun q hq => ⟨hLt q (List.mem_of_mem_take hq), fun e => hnot (e ▸ hq)⟩
  have htop : t.getD L[p] 0 ≤ 1000000 * (p : Int) := by
   rcases t6 with t6 | ⟨y, y1, y2⟩
   ·omega
   ·obtain ⟨u, u1, u2, u3⟩ := hAk _ y1
    have : y = u := by omega
    subst this
    have := hs.top y u2
    omega
  have hs' : Sm g adj L (p + 1) (t.set L[p] (t.getD L[p] 0 + wt g L[p])) := by
   refine ⟨by simpa using t2, fun q hq hqn => ?_, fun q y hq hy => ?_, fun q hq => ?_, fun q hq => ?_, fun q hq => ?_⟩
   ·rw [hgo q hq (fun e => hqn ((ht q).2 (.inr e)))]
    exact hs.zero q hq (fun hm => hqn ((ht q).2 (.inl hm)))
   ·rcases (ht q).1 hq with hq | hq
    ·have h1 := hlt2 q hq
     have h2 := hlt2 y (hadj q y hq hy)
     rw [hgo q h1.1 h1.2, hgo y h2.1 h2.2]
     exact hs.up q y hq hy
    ·subst hq
     obtain ⟨u, u1, u2, u3⟩ := hAk _ hy
     have : y = u := by omega
     subst this
     rw [hgo y u2 u3, hg, if_pos rfl]
     have := t5 y hy
     omega
   ·rcases (ht q).1 hq with hq | hq
    ·have h1 := hlt2 q hq
     rw [hgo q h1.1 h1.2]
     exact hs.low q hq
    ·subst hq
     rw [hg, if_pos rfl]; omega
   ·rcases (ht q).1 hq with hq | hq
    ·have h1 := hlt2 q hq
     rw [hgo q h1.1 h1.2]
     rcases hs.got q hq with h | ⟨y, y1, y2⟩
     ·exact .inl h
     ·have h2 := hlt2 y (hadj q y hq y1)
      exact .inr ⟨y, y1, by rw [hgo y h2.1 h2.2]; exact y2⟩
    ·subst hq
     rw [hg, if_pos rfl]
     rcases t6 with t6 | ⟨y, y1, y2⟩
     ·left; omega
     ·right
      obtain ⟨u, u1, u2, u3⟩ := hAk _ y1
      have : y = u := by omega
      subst this
      exact ⟨y, y1, by rw [hgo y u2 u3]; omega⟩
   ·by_cases hqk : q = L[p]
    ·rw [hqk, hg, if_pos rfl]
     omega
    ·rw [hgo q hq hqk]
     have := hs.top q hq
     omega
  obtain ⟨s', k1, k2⟩ := ih (p + 1) _ (by clear t6; omega) (by clear t6; omega) hs'
  refine ⟨s', (Z4 ?_).trans k1, k2⟩
  have hil : p < (ints L).length := by simpa using hlt
  have e : rd (0 : Int) (ints L) (p : Int) = (L[p] : Int) := by rw [Zg hil]; simp [ints]
  have ea : rd ([] : List Int) adj ((L[p] : Nat) : Int) = adj.getD L[p] [] := by
   rw [Zg (by omega : L[p] < adj.length)]
   simp [List.getD, hal, hk]
  clear t6
  simp only [Qe.s0, Z2, e, ea, t1, ob_s, Option.isSome_some, Option.getD_some, wt_rd hk, Int.toNat_natCast, List.length_map]
  rw [if_pos (by omega), Z0 (by omega), Z0 (by omega), Z0 (by omega), Z0 (by omega), Z0 trivial, Z0 (by omega), Ze (by omega) (by omega), Z0 (by omega), Z0 (by omega), Ze (by omega) (by omega)]
  rfl
theorem sums_eq (h : Right g) (dp us : List (List Int)) (hal : adj.length = g.length) (hL : L.Nodup) (hLt : ∀ x ∈ L, x < g.length) (hall : ∀ k, k < g.length → k ∈ L) (hl : ∀ k, k < g.length → (adj.getD k []).length ≤ 1000000)
  (hA : ∀ p : Nat, ∀ hp : p < L.length, ∀ y ∈ adj.getD L[p] [], ∃ u : Nat, y = u ∧ u ∈ L.take p) : ∃ s, Qe.f (some (g, (dp, us))) (ints L) adj = some s ∧ Sum g adj s := by
 have hgl := h.len
 have hLl := Z1u hL hLt
 obtain ⟨s, s1, s2⟩ := sumLoop h dp us hal hL hLt hl hA L.length 0 (List.replicate g.length 0) (by omega) (by omega)
  ⟨by simp, fun k hk _ => by rw [List.getD, List.getElem?_replicate, if_pos hk]; rfl, fun k y hk => by simp at hk, fun k hk => by simp at hk, fun k hk => by simp at hk, fun k hk => by
   rw [List.getD, List.getElem?_replicate, if_pos hk]; simp⟩
 have ht : ∀ k, k < g.length → k ∈ L.take L.length := fun k hk => by rw [List.take_length]; exact hall k hk
 refine ⟨s, ?_, s2.len, fun k y hk => s2.up k y (ht k hk), fun k hk => s2.low k (ht k hk), fun k hk => s2.got k (ht k hk), fun k hk => by have := s2.top k hk; omega⟩
 unfold Qe.f
 rw [show ((0 : Nat) : Int) = 0 from rfl] at s1
 simp only [Option.isSome_some, Option.getD_some, Int.toNat_natCast, Zal, s1, ob_s]
 rw [Z0 (by omega)]
end
end Go.Proofs.YtcphmeggalaplaaDoor
set_option linter.unusedVariables false
set_option linter.unusedSimpArgs false
namespace Go.Proofs.YtcphmeggalaplaaDoor
open Go Go.Proofs.YtcphmeggalaplaaDoor.Eng
def mpX {C R R' : Type} (φ : R → R') : Option (C ⊕ R) → Option (C ⊕ R')
 | none => none
 | some (.inl y) => some (.inl y)
 | some (.inr r) => some (.inr (φ r))
theorem mpX_ck {C R R' : Type} {φ : R → R'} {c : Prop} {a : Option (C ⊕ R)} {b : Option (C ⊕ R')} (h : b = mpX φ a) : ck c b = mpX φ (ck c a) := by
 by_cases hc : c
 ·rw [Z0 hc, Z0 hc]; exact h
 ·unfold ck; rw [if_neg hc, if_neg hc]; rfl
theorem mpX_cb {C R R' : Type} {φ : R → R'} {c : Bool} {a a' : Option (C ⊕ R)} {b b' : Option (C ⊕ R')} (h : b = mpX φ a) (h' : b' = mpX φ a') : cb c b b' = mpX φ (cb c a a') := by
 cases c
 ·exact h'
 ·exact h
theorem mpX_ob {C R R' E : Type} {φ : R → R'} {r : Option E} {a : E → Option (C ⊕ R)} {b : E → Option (C ⊕ R')} (h : ∀ x, b x = mpX φ (a x)) : ob r b = mpX φ (ob r a) := by
 cases r
 ·rfl
 ·exact h _
theorem Zgm {X R R' : Type} {f : X → Option (X ⊕ R)} {f' : X → Option (X ⊕ R')} (φ : R → R') (hf : ∀ x, f' x = mpX φ (f x)) {x : X} {r' : R'} (h : Zl f' x = some r') : ∃ r, Zl f x = some r ∧ φ r = r' := by
 obtain ⟨n, hn⟩ := Z39 h
 clear h
 induction n generalizing x with
 | zero => cases hn
 | succ n ih =>
  simp only [Z3o, hf] at hn
  cases hx : f x with
  | none => rw [hx] at hn; cases hn
  | some v =>
   rw [hx] at hn
   cases v with
   | inl y =>
    obtain ⟨r, h1, h2⟩ := ih hn
    exact ⟨r, (Z4 hx).trans h1, h2⟩
   | inr r =>
    cases hn
    exact ⟨r, Z1 hx, rfl⟩
section
variable {g : List Nd}
def phiO {A B : Type} : (Bool × A) ⊕ B → (List Int × Bool) ⊕ B
 | .inl a => .inl ([], a.1)
 | .inr b => .inr b
theorem Zf2 {N : Option (List Nd × (List (List Int) × List (List Int)))} {z : List Int × Bool} (h : Q3.f N = some z) : Q4.f N = some z := by
 unfold Q3.f at h
 unfold Q4.f
 obtain ⟨c1, h⟩ := Z1f h
 rw [Z0 c1]
 simp only at h ⊢
 obtain ⟨c2, h⟩ := Z1f h
 rw [Z0 c2]
 obtain ⟨c3, h⟩ := Z1f h
 rw [Z0 c3]
 obtain ⟨l, h1, h⟩ := Z3l h
 have h1' : Q4.l0 (N.getD ([], ([], []))).2.1 ((N.getD ([], ([], []))).2.1.length : Int) 0 (List.replicate ((N.getD ([], ([], []))).1.length : Int).toNat 0) = some l := h1
 rw [h1', ob_s]
 obtain ⟨c4, h⟩ := Z1f h
 rw [Z0 c4]
 obtain ⟨c5, h⟩ := Z1f h
 rw [Z0 c5]
 obtain ⟨r, h2, h⟩ := Z3l h
 obtain ⟨r', h3, h4⟩ := Zgm (f := fun x : List Int × (List Bool × List Int) => Q4.s1 N x.1 x.2.1 x.2.2) phiO (fun x => by
  have e2 : ∀ a b c d, Q3.l2 a b c d = Q4.l2 a b c d := fun _ _ _ _ => rfl
  have e3 : ∀ a b c d e i j, Q3.l3 a b c d e i j = Q4.l3 a b c d e i j := fun _ _ _ _ _ _ _ => rfl
  simp only [Q3.s1, Q4.s1, e2, e3]
  repeat' first | apply mpX_ck | apply mpX_cb | (apply mpX_ob; intro _) | rfl) h2
 have h3' : Q4.l1 N l (List.replicate ((N.getD ([], ([], []))).1.length : Int).toNat false) [] = some r' := h3
 rw [h3', ob_s]
 cases r' with
 | inl a =>
  have : r = .inl ([], a.1) := h4.symm
  subst this
  exact h
 | inr b =>
  have : r = .inr b := h4.symm
  subst this
  exact h
end
end Go.Proofs.YtcphmeggalaplaaDoor
set_option linter.unusedVariables false
set_option linter.unusedSimpArgs false
namespace Go.Proofs.YtcphmeggalaplaaDoor
open Go Go.Proofs.YtcphmeggalaplaaDoor.Eng
section
variable {g : List Nd}
theorem Z5x {k : Nat} (hk : k < g.length) : (Z1c g).getD k [] = U g g.length k := by simp [Z1c, List.getD, hk]
theorem Zer (h : Right g) {L : List Nat} (ho : Ord g L) (hl : L.length = g.length) : ∃ s, Qe.f (net g) (ints L.reverse) (Z1c g) = some s ∧ Sum g (Z1c g) s :=
 sums_eq h _ _ (by simp [Z1c]) (by rw [List.Nodup, List.pairwise_reverse]; exact ho.nodup.imp fun h => Ne.symm h) (fun x hx => ho.lt x (List.mem_reverse.1 hx)) (fun k hk => List.mem_reverse.2 (ho.all hl hk)) (fun k hk => by
  rw [Z5x hk]; have := Zjk g g.length k; have := h.len; omega) (fun p hp y hy => by
  have hpl : p < L.length := by simpa using hp
  have hk : L.reverse[p] < g.length := ho.lt _ (List.mem_reverse.1 (List.getElem_mem hp))
  rw [Z5x hk] at hy
  obtain ⟨u, u1, u2, u3⟩ := Zi2.1 hy
  refine ⟨u, u1, ?_⟩
  obtain ⟨q, hq, hqe⟩ := List.getElem_of_mem (ho.all hl u2)
  have he : Ed g L[q] L.reverse[p] := by rw [hqe]; exact ⟨u2, u3⟩
  have hm := ho.dep q hq _ he
  obtain ⟨r, hr, hre⟩ := List.getElem_of_mem hm
  have hrq : r < q := by have := hr; simp at this; omega
  rw [List.getElem_take, List.getElem_reverse] at hre
  have hrp := Zc1 ho.nodup (by omega : r < L.length) (by omega) hre
  refine List.mem_take_iff_getElem.2 ⟨L.length - 1 - q, by simp; omega, ?_⟩
  rw [List.getElem_reverse]
  have : L.length - 1 - (L.length - 1 - q) = q := by omega
  simp only [this, hqe])
theorem Zjl (h : Right g) {L : List Nat} (ho : Ord g L) (hl : L.length = g.length) (ht : Q1p.f g = some (net g, (ints L, 0))) : ∃ s, Sum g (Z1c g) s ∧ Q1w.f g = some (s, 0) := by
 have hgl := h.len
 obtain ⟨s, s1, s2⟩ := Zer h ho hl
 refine ⟨s, s2, ?_⟩
 have hr : Z12 (ints L) = some (ints L.reverse) := by
  unfold Z12
  rw [Z0 (by simp only [List.length_map]; omega)]
  simp [ints]
 unfold Q1w.f
 rw [ht]
 simp only [ob_s, Z5q, Z2, if_true, hr, Option.isSome_some, Option.getD_some, Zal, s1]
end
end Go.Proofs.YtcphmeggalaplaaDoor
set_option linter.unusedVariables false
set_option linter.unusedSimpArgs false
namespace Go.Proofs.YtcphmeggalaplaaDoor
open Go Go.Proofs.YtcphmeggalaplaaDoor.Eng
section
variable {g : List Nd}
end
end Go.Proofs.YtcphmeggalaplaaDoor
set_option linter.unusedVariables false
set_option linter.unusedSimpArgs false
namespace Go.Proofs.YtcphmeggalaplaaDoor
open Go
section
variable (n : Nat) (D : Nat → List Nat) (W : Nat → Int)
def rel (v : Int) : List Nat → List Int → List Int
 | [], o => o
 | k :: r, o => rel v r (o.set k (max (o.getD k 0) v))
theorem Zdd (v : Int) : ∀ (ks : List Nat) (o : List Int), (rel v ks o).length = o.length
 | [], o => rfl
 | k :: r, o => by rw [rel, Zdd v r]; simp
theorem Z72 {o : List Int} {i k : Nat} {v : Int} (hi : i < o.length) : (o.set i v).getD k 0 = if i = k then v else o.getD k 0 := by
 simp only [List.getD_eq_getElem?_getD, List.getElem?_set, hi, if_true]
 split <;> rfl
theorem Zg7 (v : Int) : ∀ (ks : List Nat) (o : List Int), (∀ k ∈ ks, k < o.length) → ∀ k, (rel v ks o).getD k 0 = if k ∈ ks then max (o.getD k 0) v else o.getD k 0
 | [], o, _, k => by simp [rel]
 | a :: r, o, h, k => by
  have ha := h a (List.mem_cons_self ..)
  rw [rel, Zg7 v r _ (fun x hx => by rw [List.length_set]; exact h x (List.mem_cons_of_mem _ hx)), Z72 ha]
  by_cases hk : a = k
  ·subst hk
   rw [if_pos rfl, if_pos (List.mem_cons_self ..)]
   split <;> omega
  ·rw [if_neg hk]
   by_cases hr : k ∈ r
   ·rw [if_pos hr, if_pos (List.mem_cons_of_mem _ hr)]
   ·rw [if_neg hr, if_neg (fun h => (List.mem_cons.1 h).elim (fun e => hk e.symm) hr)]
def crS (i : Nat) (o : List Int) : List Int := rel (o.getD i 0 + W i) (D i) (o.set i (o.getD i 0 + W i))
noncomputable def bs (S : List Nat) (k : Nat) : Int := @ite _ (k ∈ S) (Classical.propDecidable _) (W k) 0
structure Cr (S : List Nat) (o : List Int) : Prop where
 len : o.length = n
 up : ∀ u ∈ S, ∀ k, k < n → k ∈ D u → bs W S k + o.getD u 0 ≤ o.getD k 0
 low : ∀ k, k < n → bs W S k ≤ o.getD k 0
 got : ∀ k, k < n → o.getD k 0 = bs W S k ∨ ∃ u ∈ S, k ∈ D u ∧ o.getD k 0 = bs W S k + o.getD u 0
 pos : ∀ k, k < n → 0 ≤ o.getD k 0
 top : ∀ k, k < n → o.getD k 0 ≤ 1000000 * (S.length : Int)
variable {n D W}
theorem Cr.nil : Cr n D W [] (List.replicate n 0) where
 len := by simp
 up := fun u h => by cases h
 low := fun k h => by simp [bs, List.getD_eq_getElem?_getD, h]
 got := fun k h => .inl (by simp [bs, List.getD_eq_getElem?_getD, h])
 pos := fun k h => by simp [List.getD_eq_getElem?_getD, h]
 top := fun k h => by simp [List.getD_eq_getElem?_getD, h]
theorem Zcm {S : List Nat} {k : Nat} (h : k ∈ S) : bs W S k = W k := by unfold bs; rw [if_pos h]
theorem Z99 {S : List Nat} {k : Nat} (h : k ∉ S) : bs W S k = 0 := by unfold bs; rw [if_neg h]
theorem Zjh {S : List Nat} {i k : Nat} (h : k ≠ i) : bs W (i :: S) k = bs W S k := by
 by_cases hk : k ∈ S
 ·rw [Zcm hk, Zcm (List.mem_cons_of_mem _ hk)]
 ·rw [Z99 hk, Z99 (fun h' => (List.mem_cons.1 h').elim h hk)]
theorem Cr.cons {S : List Nat} {o : List Int} (hc : Cr n D W S o) {i : Nat} (hi : i < n) (hiS : i ∉ S) (hW : 0 ≤ W i ∧ W i ≤ 1000000) (hD : ∀ k ∈ D i, k < n ∧ k ≠ i ∧ k ∉ S) : Cr n D W (i :: S) (crS D W i o) := by
 have hio : i < o.length := by rw [hc.len]; exact hi
 have hset : (o.set i (o.getD i 0 + W i)).length = n := by rw [List.length_set, hc.len]
 have g : ∀ k, (crS D W i o).getD k 0 = if k ∈ D i then max (o.getD k 0) (o.getD i 0 + W i) else if i = k then o.getD i 0 + W i else o.getD k 0 := fun k => by
  unfold crS
  rw [Zg7 _ _ _ (fun k hk => by rw [hset]; exact (hD k hk).1), Z72 hio]
  by_cases hk : k ∈ D i
  ·rw [if_pos hk, if_pos hk, if_neg (fun e => (hD k hk).2.1 e.symm)]
  ·rw [if_neg hk, if_neg hk]
 have gi : (crS D W i o).getD i 0 = o.getD i 0 + W i := by
  rw [g, if_neg (fun h => (hD i h).2.1 rfl), if_pos rfl]
 have gS : ∀ u ∈ S, (crS D W i o).getD u 0 = o.getD u 0 := fun u hu => by
  rw [g, if_neg (fun h => (hD u h).2.2 hu), if_neg (fun e : i = u => hiS (by rw [e]; exact hu))]
 have ge : ∀ k, k ≠ i → o.getD k 0 ≤ (crS D W i o).getD k 0 := fun k hk => by
  rw [g]
  split
  ·omega
  ·rw [if_neg (Ne.symm hk)]; omega
 have hp := hc.pos i hi
 refine ⟨?_, ?_, ?_, ?_, ?_, ?_⟩
 ·unfold crS; rw [Zdd, hset]
 ·intro u hu k hk hku
  rcases List.mem_cons.1 hu with rfl | hu
  ·obtain ⟨_, h1, h2⟩ := hD k hku
   rw [Zjh h1, Z99 h2, gi, g, if_pos hku]
   omega
  ·rw [gS u hu]
   have h0 := hc.up u hu k hk hku
   by_cases hki : k = i
   ·subst hki
    rw [Z99 hiS] at h0
    rw [Zcm (List.mem_cons_self ..), gi]
    omega
   ·rw [Zjh hki]
    have := ge k hki
    omega
 ·intro k hk
  by_cases hki : k = i
  ·subst hki
   rw [Zcm (List.mem_cons_self ..), gi]
   omega
  ·rw [Zjh hki]
   have := ge k hki
   have := hc.low k hk
   omega
 ·intro k hk
  have h0 := hc.got k hk
  by_cases hki : k = i
  ·subst hki
   rw [Z99 hiS] at h0
   rw [Zcm (List.mem_cons_self ..), gi]
   rcases h0 with h0 | ⟨u, hu, h1, h2⟩
   ·exact .inl (by omega)
   ·exact .inr ⟨u, List.mem_cons_of_mem _ hu, h1, by rw [gS u hu]; omega⟩
  ·rw [Zjh hki]
   have old : (crS D W i o).getD k 0 = o.getD k 0 → ((crS D W i o).getD k 0 = bs W S k ∨ ∃ u ∈ i :: S, k ∈ D u ∧ (crS D W i o).getD k 0 = bs W S k + (crS D W i o).getD u 0) := fun e => by
    rcases h0 with h0 | ⟨u, hu, h1, h2⟩
    ·exact .inl (by rw [e, h0])
    ·exact .inr ⟨u, List.mem_cons_of_mem _ hu, h1, by rw [e, gS u hu, h2]⟩
   by_cases hkD : k ∈ D i
   ·have e := g k
    rw [if_pos hkD] at e
    rcases Int.le_total (o.getD k 0) (o.getD i 0 + W i) with h | h
    ·rw [Int.max_eq_right h] at e
     exact .inr ⟨i, List.mem_cons_self .., hkD, by rw [gi, e, Z99 (hD k hkD).2.2]; omega⟩
    ·rw [Int.max_eq_left h] at e
     exact old e
   ·exact old (by rw [g, if_neg hkD, if_neg (Ne.symm hki)])
 ·intro k hk
  by_cases hki : k = i
  ·subst hki; rw [gi]; omega
  ·have := ge k hki
   have := hc.pos k hk
   omega
 ·intro k hk
  have h1 := hc.top k hk
  have h2 := hc.top i hi
  rw [g]
  simp only [List.length_cons, Int.natCast_add, Int.natCast_one]
  split
  ·omega
  ·split <;> omega
structure Tp (n : Nat) (D : Nat → List Nat) (L : List Nat) : Prop where
 nodup : L.Nodup
 lt : ∀ x ∈ L, x < n
 all : ∀ x, x < n → x ∈ L
 dep : ∀ p : Nat, ∀ hp : p < L.length, ∀ d ∈ D L[p], d ∈ L.take p
theorem Z75 {L : List Nat} (h : L.Nodup) {p q : Nat} (hp : p < L.length) (hq : q < L.length) (e : L[p] = L[q]) : p = q := by
 rcases Nat.lt_trichotomy p q with h1 | h1 | h1
 ·exact absurd e (List.pairwise_iff_getElem.1 h p q hp hq h1)
 ·exact h1
 ·exact absurd e.symm (List.pairwise_iff_getElem.1 h q p hq hp h1)
theorem Tp.ind {L : List Nat} (ho : Tp n D L) {Q : Nat → Prop} (step : ∀ k, k < n → (∀ u, u < n → k ∈ D u → Q u) → Q k) : ∀ k, k < n → Q k := by
 have key : ∀ (m p : Nat) (hp : p < L.length), L.length - p = m → Q L[p] := by
  intro m
  induction m using Nat.strongRecOn with
  | _ m ih =>
   intro p hp hm
   refine step _ (ho.lt _ (List.getElem_mem hp)) fun u hu hku => ?_
   obtain ⟨q, hq, hqe⟩ := List.getElem_of_mem (ho.all u hu)
   obtain ⟨r, hr, hre⟩ := List.getElem_of_mem (ho.dep q hq L[p] (by rw [hqe]; exact hku))
   have hrq : r < q := by have := hr; simp at this; omega
   rw [List.getElem_take] at hre
   have := Z75 ho.nodup (by omega : r < L.length) hp hre
   rw [← hqe]
   exact ih (L.length - q) (by omega) q hq rfl
 intro k hk
 obtain ⟨p, hp, hpe⟩ := List.getElem_of_mem (ho.all k hk)
 rw [← hpe]
 exact key _ p hp rfl
structure Fi (n : Nat) (D : Nat → List Nat) (W : Nat → Int) (o : List Int) : Prop where
 len : o.length = n
 up : ∀ u k, u < n → k < n → k ∈ D u → W k + o.getD u 0 ≤ o.getD k 0
 low : ∀ k, k < n → W k ≤ o.getD k 0
 got : ∀ k, k < n → o.getD k 0 = W k ∨ ∃ u, u < n ∧ k ∈ D u ∧ o.getD k 0 = W k + o.getD u 0
theorem Fi.uniq {L : List Nat} (ho : Tp n D L) {a b : List Int} (ha : Fi n D W a) (hb : Fi n D W b) : a = b := by
 have key : ∀ k, k < n → a.getD k 0 = b.getD k 0 := ho.ind fun k hk ih => by
  have l1 := ha.low k hk
  have l2 := hb.low k hk
  rcases ha.got k hk with h1 | ⟨u, hu, hd, h1⟩
  ·rcases hb.got k hk with h2 | ⟨u, hu, hd, h2⟩
   ·rw [h1, h2]
   ·have := ih u hu hd
    have := ha.up u k hu hk hd
    omega
  ·have e1 := ih u hu hd
   have u1 := hb.up u k hu hk hd
   rcases hb.got k hk with h2 | ⟨w, hw, hd2, h2⟩
   ·omega
   ·have := ih w hw hd2
    have := ha.up w k hw hk hd2
    omega
 refine List.ext_getElem (ha.len.trans hb.len.symm) fun k h1 h2 => ?_
 have := key k (by rw [← ha.len]; exact h1)
 simpa [List.getD_eq_getElem?_getD, h1, h2] using this
theorem Cr.fi {L : List Nat} (ho : Tp n D L) {o : List Int} (h : Cr n D W L o) : Fi n D W o where
 len := h.len
 up := fun u k hu hk hd => by have := h.up u (ho.all u hu) k hk hd; rwa [Zcm (ho.all k hk)] at this
 low := fun k hk => by have := h.low k hk; rwa [Zcm (ho.all k hk)] at this
 got := fun k hk => by
  have := h.got k hk
  rw [Zcm (ho.all k hk)] at this
  exact this.imp id fun ⟨u, hu, a, b⟩ => ⟨u, ho.lt u hu, a, b⟩
theorem Cr.drop {L : List Nat} (ho : Tp n D L) (hW : ∀ i, i < n → 0 ≤ W i ∧ W i ≤ 1000000) {p : Nat} (hp : p < L.length) {o : List Int} (h : Cr n D W (L.drop (p + 1)) o) : Cr n D W (L.drop p) (crS D W L[p] o) := by
 have hlt := ho.lt _ (List.getElem_mem hp)
 rw [List.drop_eq_getElem_cons hp]
 have hno : ∀ q : Nat, ∀ hq : q < L.length, q ≤ p → L[q] ∉ L.drop (p + 1) := fun q hq hqp hm => by
  obtain ⟨r, hr, hre⟩ := List.getElem_of_mem hm
  rw [List.getElem_drop] at hre
  have := Z75 ho.nodup (by simp at hr; omega) hq hre
  omega
 refine h.cons hlt (hno p hp (Nat.le_refl _)) (hW _ hlt) fun k hk => ?_
 obtain ⟨r, hr, hre⟩ := List.getElem_of_mem (ho.dep p hp k hk)
 have hrp : r < p := by have := hr; simp at this; omega
 rw [List.getElem_take] at hre
 refine ⟨?_, ?_, ?_⟩
 ·rw [← hre]; exact ho.lt _ (List.getElem_mem _)
 ·intro e
  have := Z75 ho.nodup (by omega : r < L.length) hp (hre.trans e)
  omega
 ·rw [← hre]; exact hno r (by omega) (by omega)
end
end Go.Proofs.YtcphmeggalaplaaDoor
set_option linter.unusedVariables false
set_option linter.unusedSimpArgs false
namespace Go.Proofs.YtcphmeggalaplaaDoor
open Go Go.Proofs.YtcphmeggalaplaaDoor.Eng
abbrev Wk := ByteArray × ((List (ByteArray × ByteArray)) × (Int × (List ByteArray)))
theorem Zcy (n : Wk) (s : ByteArray) : Q1g.f n s = some (cmpS n.1 s) := rfl
def ids (g : List Wk) : List ByteArray := g.map (·.1)
theorem Z44 {g : List Wk} {k : Nat} (h : k < g.length) : (ids g)[k]'(by unfold ids; simpa using h) = g[k].1 := by simp [ids]
theorem Zjm {g : List Wk} (hl : g.length ≤ 1000) (hr : Rising (ids g)) (s : ByteArray) : ∃ (c : Nat) (b : Bool), Q14.f g s = some ((c : Int), b) ∧ c ≤ g.length ∧ ((b = true ∧ ∃ h : c < g.length, g[c].1 = s) ∨ (b = false ∧ ∀ k : Nat, ∀ h : k < g.length, g[k].1 ≠ s)) := by
 have go : ∀ (n a b : Nat), b - a = n → a ≤ b → b ≤ g.length → (∀ k : Nat, ∀ h : k < g.length, k < a → cmpS g[k].1 s < 0) → (∀ k : Nat, ∀ h : k < g.length, b ≤ k → ¬ cmpS g[k].1 s < 0) →
   ∃ c : Nat, Q1.l0 g s (a : Int) (b : Int) = some (c : Int) ∧ c ≤ g.length ∧ (∀ k : Nat, ∀ h : k < g.length, k < c → cmpS g[k].1 s < 0) ∧ (∀ k : Nat, ∀ h : k < g.length, c ≤ k → ¬ cmpS g[k].1 s < 0) := by
  intro n
  induction n using Nat.strongRecOn with
  | _ n ih =>
   intro a b hn hab hb h1 h2
   rcases Nat.lt_or_ge a b with hlt | hge
   ·have hm : (a + b) / 2 < g.length := by omega
    have hh := half (a := a) (b := b) (by omega) (by omega)
    have hmono : ∀ i j : Nat, ∀ hi : i < g.length, ∀ hj : j < g.length, i < j → cmpS g[i].1 g[j].1 < 0 := fun i j hi hj hij => by
     have := hr i j (by unfold ids; simpa using hj) hij
     rw [Z44 hi, Z44 hj] at this
     exact this
    by_cases hc : cmpS g[(a + b) / 2].1 s < 0
    ·obtain ⟨c, h3, h4⟩ := ih (b - ((a + b) / 2 + 1)) (by omega) ((a + b) / 2 + 1) b rfl (by omega) hb (fun k hk hka => by
      rcases Nat.lt_or_ge k ((a + b) / 2) with h | h
      ·exact Z3d (hmono k _ hk hm h) hc
      ·have : k = (a + b) / 2 := by omega
       subst this; exact hc) h2
     refine ⟨c, (Z4 ?_).trans h3, h4⟩
     simp only [Q1.s0, Z2, hh, Zg hm, Zcy, ob_s]
     rw [if_pos (by omega), Ze (by omega) (by omega), Z0 (by omega), if_pos hc, Ze (by omega) (by omega)]
     rfl
    ·obtain ⟨c, h3, h4⟩ := ih ((a + b) / 2 - a) (by omega) a ((a + b) / 2) rfl (by omega) (by omega) h1 (fun k hk hka => by
      intro h
      rcases Nat.lt_or_ge ((a + b) / 2) k with h5 | h5
      ·exact hc (Z3d (hmono _ k hm hk h5) h)
      ·have : k = (a + b) / 2 := by omega
       subst this; exact hc h)
     refine ⟨c, (Z4 ?_).trans h3, h4⟩
     simp only [Q1.s0, Z2, hh, Zg hm, Zcy, ob_s]
     rw [if_pos (by omega), Ze (by omega) (by omega), Z0 (by omega), if_neg hc]
   ·have e : a = b := by omega
    subst e
    refine ⟨a, Z1 ?_, hb, h1, h2⟩
    simp only [Q1.s0, Z2]
    rw [if_neg (by omega)]
 obtain ⟨c, h1, h2, h3, h4⟩ := go _ 0 g.length rfl (Nat.zero_le _) (Nat.le_refl _) (fun k _ h => absurd h (Nat.not_lt_zero _)) (fun k hk h => by omega)
 rw [show ((0 : Nat) : Int) = 0 from rfl] at h1
 unfold Q14.f Q1.f
 simp only [h1, ob_s, Z2]
 by_cases hc : c < g.length
 ·rw [if_pos (by omega), Z0 (by omega)]
  simp only [Zg hc, Zcy, ob_s]
  refine ⟨c, _, rfl, h2, ?_⟩
  by_cases h0 : cmpS g[c].1 s = 0
  ·exact .inl ⟨by simp [h0], hc, (Z1x _ _).1 h0⟩
  ·refine .inr ⟨by simp [h0], fun k hk e => ?_⟩
   have hz : cmpS g[k].1 s = 0 := (Z1x _ _).2 e
   rcases Nat.lt_trichotomy k c with h | h | h
   ·have := h3 k hk h; omega
   ·subst h; exact h0 hz
   ·have h5 := hr c k (by unfold ids; simpa using hk) h
    rw [Z44 hc, Z44 hk, e] at h5
    exact h4 c hc (Nat.le_refl _) h5
 ·rw [if_neg (by omega)]
  simp only [ob_s]
  refine ⟨c, _, rfl, h2, .inr ⟨rfl, fun k hk e => ?_⟩⟩
  have hz : cmpS g[k].1 s = 0 := (Z1x _ _).2 e
  have := h3 k hk (by omega)
  omega
end Go.Proofs.YtcphmeggalaplaaDoor
set_option linter.unusedVariables false
set_option linter.unusedSimpArgs false
namespace Go.Proofs.YtcphmeggalaplaaDoor
open Go Go.Proofs.YtcphmeggalaplaaDoor.Eng
noncomputable def wpos (l : List Wk) (s : ByteArray) : Nat := ((Q14.f l s).getD (0, false)).1.toNat
structure Wr (l : List Wk) : Prop where
 len : l.length ≤ 200
 ris : Rising (ids l)
 aft : ∀ x ∈ l, x.2.2.2.length ≤ 9000000000000
 there : ∀ x ∈ l, ∀ s ∈ x.2.2.2, ∃ k : Nat, ∃ h : k < l.length, l[k].1 = s
theorem Wr.at {l : List Wk} (h : Wr l) {s : ByteArray} (hs : ∃ k : Nat, ∃ hk : k < l.length, l[k].1 = s) : Q14.f l s = some ((wpos l s : Int), true) ∧ ∃ hk : wpos l s < l.length, l[wpos l s].1 = s := by
 obtain ⟨c, b, h1, h2, h3⟩ := Zjm (g := l) (by have := h.len; omega) h.ris s
 have e : wpos l s = c := by unfold wpos; rw [h1]; rfl
 rw [e]
 rcases h3 with ⟨rfl, h4⟩ | ⟨_, h4⟩
 ·exact ⟨h1, h4⟩
 ·obtain ⟨k, hk, e⟩ := hs
  exact absurd e (h4 k hk)
noncomputable def Af (l : List Wk) (i : Nat) : List Nat := ((l[i]?.map fun x => x.2.2.2).getD []).map (wpos l)
theorem Zem {l : List Wk} {i : Nat} (hi : i < l.length) : Af l i = l[i].2.2.2.map (wpos l) := by simp [Af, hi]
variable {l : List Wk}
theorem ow_eq (h : Wr l) {s : ByteArray} (hs : ∃ k : Nat, ∃ hk : k < l.length, l[k].1 = s) {d : List Bool} (hd : d.length = l.length) : Q18.f s l d = some (!(d.getD (wpos l s) false), l, d) := by
 obtain ⟨h1, h2, _⟩ := h.at hs
 unfold Q18.f
 rw [h1, ob_s]
 simp only [Int.toNat_natCast]
 rw [Z0 (by omega), Z0 (by omega)]
theorem idxLoop (h : Wr l) {a : List ByteArray} (ha : a.length ≤ 9000000000000) (hs : ∀ s ∈ a, ∃ k : Nat, ∃ hk : k < l.length, l[k].1 = s) {d : List Bool} (hd : d.length = l.length) : ∀ (n k : Nat), a.length - k = n → k ≤ a.length →
  (Q6.l0 a (a.length : Int) (k : Int) l d = some (.inr (l, d)) ∧ ∀ s ∈ a.drop k, d.getD (wpos l s) false = true) ∨
  ∃ q : Nat, Q6.l0 a (a.length : Int) (k : Int) l d = some (.inl ((q : Int), l, d)) ∧ ∃ s ∈ a, d.getD (wpos l s) false = false := by
 intro n
 induction n with
 | zero =>
  intro k hn hk
  have e : k = a.length := by omega
  subst e
  refine .inl ⟨Z1 ?_, by simp⟩
  simp only [Q6.s0, Z2]
  rw [if_neg (by omega)]
 | succ n ih =>
  intro k hn hk
  have hlt : k < a.length := by omega
  have hm : a[k] ∈ a := List.getElem_mem hlt
  have ho := ow_eq h (hs _ hm) hd
  cases hb : d.getD (wpos l a[k]) false with
  | false =>
   refine .inr ⟨k, Z1 ?_, a[k], hm, hb⟩
   simp only [Q6.s0, Z2, Zg hlt, ho, ob_s, hb, Bool.not_false, cb_t, Z89, Zal]
   rw [if_pos (by omega), Z0 (by omega)]
  | true =>
   have st : Q6.s0 a (a.length : Int) (k : Int) l d = some (.inl (((k + 1 : Nat) : Int), l, d)) := by
    simp only [Q6.s0, Z2, Zg hlt, ho, ob_s, hb, Bool.not_true, cb_f, Z89, Zal]
    rw [if_pos (by omega), Z0 (by omega), Ze (by omega) (by omega)]
    rfl
   have nx : Q6.l0 a (a.length : Int) (k : Int) l d = Q6.l0 a (a.length : Int) ((k + 1 : Nat) : Int) l d := Z4 st
   rw [nx]
   rcases ih (k + 1) (by omega) (by omega) with ⟨h1, h2⟩ | h1
   ·refine .inl ⟨h1, fun s hs' => ?_⟩
    rw [List.drop_eq_getElem_cons hlt] at hs'
    rcases List.mem_cons.1 hs' with rfl | hs'
    ·exact hb
    ·exact h2 s hs'
   ·exact .inr h1
theorem cont_eq (h : Wr l) {a : List ByteArray} (ha : a.length ≤ 9000000000000) (hs : ∀ s ∈ a, ∃ k : Nat, ∃ hk : k < l.length, l[k].1 = s) {d : List Bool} (hd : d.length = l.length) :
  (Qj.f a l d = some (false, l, d) ∧ ∀ s ∈ a, d.getD (wpos l s) false = true) ∨ (Qj.f a l d = some (true, l, d) ∧ ∃ s ∈ a, d.getD (wpos l s) false = false) := by
 unfold Qj.f Q6.f
 rcases idxLoop h ha hs hd a.length 0 (by omega) (Nat.zero_le _) with ⟨h1, h2⟩ | ⟨q, h1, h2⟩
 ·refine .inl ⟨?_, by simpa using h2⟩
  simp only [show ((0 : Nat) : Int) = 0 from rfl] at h1
  simp only [h1, ob_s, Z17, Z89, Zal]
  rfl
 ·refine .inr ⟨?_, h2⟩
  simp only [show ((0 : Nat) : Int) = 0 from rfl] at h1
  simp only [h1, ob_s, Z17, Z89, Zal]
  rw [decide_eq_true (show (0 : Int) ≤ (q : Int) by omega)]
end Go.Proofs.YtcphmeggalaplaaDoor
set_option linter.unusedVariables false
set_option linter.unusedSimpArgs false
namespace Go.Proofs.YtcphmeggalaplaaDoor
open Go Go.Proofs.YtcphmeggalaplaaDoor.Eng
structure Od (l : List Wk) (L : List Nat) (d : List Bool) : Prop where
 nodup : L.Nodup
 lt : ∀ x ∈ L, x < l.length
 dep : ∀ p : Nat, ∀ hp : p < L.length, ∀ q ∈ Af l L[p], q ∈ L.take p
 dl : d.length = l.length
 dn : ∀ k, k < l.length → (d.getD k false = true ↔ k ∈ L)
variable {l : List Wk}
theorem Od.add {L : List Nat} {d : List Bool} (h : Od l L d) {i : Nat} (hi : i < l.length) (hn : i ∉ L) (ha : ∀ q ∈ Af l i, q ∈ L) : Od l (L ++ [i]) (d.set i true) where
 nodup := by
  rw [List.nodup_append]
  exact ⟨h.nodup, by simp, fun a hx b hb => by rw [List.mem_singleton.1 hb]; intro e; rw [e] at hx; exact hn hx⟩
 lt := fun x hx => by
  rcases List.mem_append.1 hx with hx | hx
  ·exact h.lt x hx
  ·rw [List.mem_singleton.1 hx]; exact hi
 dep := fun p hp q hq => by
  rcases Nat.lt_or_ge p L.length with hpl | hpl
  ·rw [List.getElem_append_left hpl] at hq
   rw [List.take_append_of_le_length (by omega)]
   exact h.dep p hpl q hq
  ·have e : p = L.length := by simp at hp; omega
   subst e
   rw [List.getElem_append_right (Nat.le_refl _)] at hq
   rw [List.take_append_of_le_length (Nat.le_refl _), List.take_length]
   exact ha q (by simpa using hq)
 dl := by rw [List.length_set]; exact h.dl
 dn := fun k hk => by
  rw [getD_set d i true k false (by rw [h.dl]; exact hi), List.mem_append, List.mem_singleton]
  by_cases e : k = i
  ·simp [e]
  ·rw [if_neg e, h.dn k hk]; simp [e]
theorem Zik (h : Wr l) : ∀ (n i : Nat), l.length - i = n → i ≤ l.length → ∀ (m : Bool) (L : List Nat) (d : List Bool), Od l L d →
  ∃ (m' : Bool) (L' : List Nat) (d' : List Bool), Q8.l1 l (l.length : Int) m (i : Int) l d (ints L) = some (m', l, d', ints L') ∧ Od l L' d' ∧ L.length ≤ L'.length ∧ (m' = true → m = true ∨ L.length < L'.length) := by
 intro n
 induction n with
 | zero =>
  intro i hn hi m L d ho
  refine ⟨m, L, d, Z1 ?_, ho, Nat.le_refl _, fun e => .inl e⟩
  simp only [Q8.s1, Z2]
  rw [if_neg (by omega)]
 | succ n ih =>
  intro i hn hi m L d ho
  have hlt : i < l.length := by omega
  have hl := h.len
  have hm : l[i] ∈ l := List.getElem_mem hlt
  have hdl := ho.dl
  have skip : Q8.s1 l (l.length : Int) m (i : Int) l d (ints L) = some (.inl (m, ((i + 1 : Nat) : Int), l, d, ints L)) → ∃ (m' : Bool) (L' : List Nat) (d' : List Bool), Q8.l1 l (l.length : Int) m (i : Int) l d (ints L) = some (m', l, d', ints L') ∧ Od l L' d' ∧ L.length ≤ L'.length ∧ (m' = true → m = true ∨ L.length < L'.length) := fun st => by
   obtain ⟨m', L', d', h1, h2⟩ := ih (i + 1) (by omega) (by omega) m L d ho
   have nx : Q8.l1 l (l.length : Int) m (i : Int) l d (ints L) = Q8.l1 l (l.length : Int) m ((i + 1 : Nat) : Int) l d (ints L) := Z4 st
   exact ⟨m', L', d', nx.trans h1, h2⟩
  cases hb : d.getD i false with
  | true =>
   refine skip ?_
   simp only [Q8.s1, Z2, Int.toNat_natCast, hb, cb_t]
   rw [if_pos (by omega), Z0 (by omega), Z0 (by omega), Z0 (by omega), Ze (by omega) (by omega)]
   rfl
  | false =>
   have hni : i ∉ L := fun e => by rw [(ho.dn i hlt).2 e] at hb; cases hb
   rcases cont_eq h (h.aft _ hm) (h.there _ hm) hdl with ⟨h1, h2⟩ | ⟨h1, h2⟩
   ·have hA : ∀ q ∈ Af l i, q ∈ L := fun q hq => by
     rw [Zem hlt] at hq
     obtain ⟨s, hs, rfl⟩ := List.mem_map.1 hq
     exact (ho.dn _ (h.at (h.there _ hm s hs)).2.1).1 (h2 s hs)
    have ho' := ho.add hlt hni hA
    have hLl : L.length ≤ l.length := Z1u ho.nodup ho.lt
    have hil : (ints L).length = L.length := by simp [ints]
    have st : Q8.s1 l (l.length : Int) m (i : Int) l d (ints L) = some (.inl (true, ((i + 1 : Nat) : Int), l, d.set i true, ints (L ++ [i]))) := by
     simp only [Q8.s1, Z2, Int.toNat_natCast, hb, cb_f, Zg hlt, h1, ob_s, Z89, Zal]
     rw [if_pos (by omega), Z0 (by omega), Z0 (by omega), Z0 (by omega), Z0 (by omega), Z0 (by omega), Z0 (by simp only [List.length_singleton, hil]; omega), Ze (by omega) (by omega)]
     simp [ints]
    obtain ⟨m', L', d', h3, h4, h5, h6⟩ := ih (i + 1) (by omega) (by omega) true (L ++ [i]) (d.set i true) ho'
    have nx : Q8.l1 l (l.length : Int) m (i : Int) l d (ints L) = Q8.l1 l (l.length : Int) true ((i + 1 : Nat) : Int) l (d.set i true) (ints (L ++ [i])) := Z4 st
    rw [List.length_append, List.length_singleton] at h5
    exact ⟨m', L', d', nx.trans h3, h4, by omega, fun _ => .inr (by omega)⟩
   ·refine skip ?_
    simp only [Q8.s1, Z2, Int.toNat_natCast, hb, cb_f, cb_t, Zg hlt, h1, ob_s, Z89, Zal]
    rw [if_pos (by omega), Z0 (by omega), Z0 (by omega), Z0 (by omega), Ze (by omega) (by omega)]
    rfl
theorem Zg4 (h : Wr l) : ∀ (n : Nat) (m : Bool) (L : List Nat) (d : List Bool), 2 * (l.length - L.length) + (if m then 1 else 0) ≤ n → Od l L d → ∃ (L' : List Nat) (d' : List Bool), Q8.l0 m l d (ints L) = some (l, d', ints L') ∧ Od l L' d' := by
 intro n
 induction n using Nat.strongRecOn with
 | _ n ih =>
  intro m L d hn ho
  cases m with
  | false => exact ⟨L, d, Z1 (by simp only [Q8.s0, cb_f]), ho⟩
  | true =>
   obtain ⟨m', L', d', h1, h2, h3, h4⟩ := Zik h l.length 0 (by omega) (Nat.zero_le _) false L d ho
   rw [show ((0 : Nat) : Int) = 0 from rfl] at h1
   have st : Q8.s0 true l d (ints L) = some (.inl (m', l, d', ints L')) := by
    simp only [Q8.s0, cb_t, h1, ob_s]
   have hLl : L'.length ≤ l.length := Z1u h2.nodup h2.lt
   have nx : Q8.l0 true l d (ints L) = Q8.l0 m' l d' (ints L') := Z4 st
   have hlt : 2 * (l.length - L'.length) + (if m' then 1 else 0) < n := by
    cases m' with
    | false => simp at hn ⊢; omega
    | true =>
     rcases h4 rfl with e | e
     ·cases e
     ·simp at hn ⊢; omega
   obtain ⟨L2, d2, h5, h6⟩ := ih _ hlt m' L' d' (Nat.le_refl _) h2
   exact ⟨L2, d2, nx.trans h5, h6⟩
theorem Zf1 (h : Wr l) : ∃ (L : List Nat) (d : List Bool), Q8.f l = some (ints L, decide (L.length = l.length)) ∧ Od l L d := by
 have hl := h.len
 have h0 : Od l [] (List.replicate l.length false) := ⟨by simp, (fun x h => by cases h), (fun p hp => by simp at hp), by simp, (fun k hk => by simp [List.getD_eq_getElem?_getD, hk])⟩
 obtain ⟨L, d, h1, h2⟩ := Zg4 h _ true [] _ (Nat.le_refl _) h0
 refine ⟨L, d, ?_, h2⟩
 have h1' : Q8.l0 true l (List.replicate l.length false) ([] : List Int) = some (l, d, ints L) := h1
 unfold Q8.f
 simp only [Int.toNat_natCast, h1', ob_s]
 rw [Z0 (by omega)]
 simp [ints]
 omega
end Go.Proofs.YtcphmeggalaplaaDoor
set_option linter.unusedVariables false
set_option linter.unusedSimpArgs false
namespace Go.Proofs.YtcphmeggalaplaaDoor
open Go Go.Proofs.YtcphmeggalaplaaDoor Go.Proofs.YtcphmeggalaplaaDoor.Eng
variable {l : List Wk}
theorem relLoop (h : Wr l) {a : List ByteArray} (ha : a.length ≤ 9000000000000) (hs : ∀ s ∈ a, ∃ k : Nat, ∃ hk : k < l.length, l[k].1 = s) {v : Nat} (hv : v < l.length) {V : Int} (hno : ∀ s ∈ a, wpos l s ≠ v) : ∀ (n k : Nat), a.length - k = n → k ≤ a.length → ∀ o : List Int, o.length = l.length → o.getD v 0 = V →
  Qa.l1 l (v : Int) a (a.length : Int) (k : Int) o = some (rel V ((a.drop k).map (wpos l)) o) := by
 intro n
 induction n with
 | zero =>
  intro k hn hk o ho hV
  have e : k = a.length := by omega
  subst e
  rw [List.drop_length]
  refine Z1 ?_
  simp only [Qa.s1, Z2]
  rw [if_neg (by omega)]
  rfl
 | succ n ih =>
  intro k hn hk o ho hV
  have hlt : k < a.length := by omega
  have hm : a[k] ∈ a := List.getElem_mem hlt
  obtain ⟨h1, h2, _⟩ := h.at (hs _ hm)
  have st : Qa.s1 l (v : Int) a (a.length : Int) (k : Int) o = some (.inl (((k + 1 : Nat) : Int), o.set (wpos l a[k]) (max (o.getD (wpos l a[k]) 0) V))) := by
   simp only [Qa.s1, Z2, Zg hlt, h1, ob_s, Int.toNat_natCast, hV]
   rw [if_pos (by omega), Z0 (by omega), Z0 (by omega), Z0 (by omega), Z0 (by omega), Z0 (by omega), Z0 (by omega), Z0 (by omega), Ze (by omega) (by omega)]
   rfl
  have nx : Qa.l1 l (v : Int) a (a.length : Int) (k : Int) o = Qa.l1 l (v : Int) a (a.length : Int) ((k + 1 : Nat) : Int) (o.set (wpos l a[k]) (max (o.getD (wpos l a[k]) 0) V)) := Z4 st
  rw [nx, ih (k + 1) (by omega) (by omega) _ (by rw [List.length_set, ho]) (by rw [Z72 (by omega), if_neg (hno _ hm)]; exact hV), List.drop_eq_getElem_cons hlt]
  rfl
noncomputable def wsz (l : List Wk) (i : Nat) : Int := ((l[i]?.map fun x => x.2.2.1).getD 0)
theorem Z9e {i : Nat} (hi : i < l.length) : wsz l i = l[i].2.2.1 := by simp [wsz, hi]
theorem roundC (h : Wr l) {i : Nat} (hi : i < l.length) (hno : ∀ q ∈ Af l i, q ≠ i) {o : List Int} (ho : o.length = l.length) (hr : InR (o.getD i 0 + wsz l i)) (j : Int) : Qa.s0 l o j (i : Int) = some (.inl (crS (Af l) (wsz l) i o)) := by
 have hm : l[i] ∈ l := List.getElem_mem hi
 have hl := relLoop (v := i) (V := o.getD i 0 + wsz l i) h (h.aft _ hm) (h.there _ hm) hi (fun s hs => hno _ (by rw [Zem hi]; exact List.mem_map_of_mem hs)) l[i].2.2.2.length 0 (by omega) (Nat.zero_le _) (o.set i (o.getD i 0 + wsz l i)) (by rw [List.length_set, ho]) (by rw [Z72 (by omega), if_pos rfl])
 rw [show ((0 : Nat) : Int) = 0 from rfl, List.drop_zero, ← Zem hi] at hl
 rw [Z9e hi] at hl hr
 simp only [Qa.s0, Zg hi, Int.toNat_natCast, hl, ob_s]
 rw [Z0 (by omega), Z0 (by omega), Z0 (by omega), Z0 hr, Z0 (by omega), Z0 (by omega), Z0 (by omega), Z0 (by rw [Zdd, List.length_set])]
 simp only [crS, Z9e hi]
end Go.Proofs.YtcphmeggalaplaaDoor
set_option linter.unusedVariables false
set_option linter.unusedSimpArgs false
namespace Go.Proofs.YtcphmeggalaplaaDoor
open Go Go.Proofs.YtcphmeggalaplaaDoor Go.Proofs.YtcphmeggalaplaaDoor.Eng
variable {l : List Wk}
theorem Od.tp {L : List Nat} {d : List Bool} (h : Od l L d) (hl : L.length = l.length) : Tp l.length (Af l) L where
 nodup := h.nodup
 lt := h.lt
 all := fun x hx => Classical.byContradiction fun hn => by
  have := Z1u (n := l.length) (L := x :: L) (List.nodup_cons.2 ⟨hn, h.nodup⟩) (fun y hy => by
   rcases List.mem_cons.1 hy with rfl | hy
   ·exact hx
   ·exact h.lt y hy)
  simp at this
  omega
 dep := h.dep
theorem backC (h : Wr l) {L : List Nat} (ho : Tp l.length (Af l) L) (hL : L.length ≤ 200) (hW : ∀ i, i < l.length → 0 ≤ wsz l i ∧ wsz l i ≤ 1000000) : ∀ p, p ≤ L.length → ∀ o, Cr l.length (Af l) (wsz l) (L.drop p) o →
  ∃ o', Zcp (fun (x : List Int) i v => Qa.s0 l x i v) (ints (L.take p)).reverse o = some (.inl o') ∧ Cr l.length (Af l) (wsz l) L o' := by
 intro p
 induction p with
 | zero =>
  intro _ o hc
  rw [List.drop_zero] at hc
  exact ⟨o, rfl, hc⟩
 | succ p ih =>
  intro hp o hc
  have hpl : p < L.length := by omega
  have hi := ho.lt _ (List.getElem_mem hpl)
  obtain ⟨o', h1, h2⟩ := ih (by omega) (crS (Af l) (wsz l) L[p] o) (Cr.drop ho hW hpl hc)
  refine ⟨o', ?_, h2⟩
  have e : (ints (L.take (p + 1))).reverse = (L[p] : Int) :: (ints (L.take p)).reverse := by
   rw [List.take_add_one, List.getElem?_eq_getElem hpl]
   show (List.map (fun x : Nat => (x : Int)) (L.take p ++ [L[p]])).reverse = _
   rw [List.map_append, List.reverse_append]
   rfl
  have h3 := hc.top _ hi
  have h4 := hc.pos _ hi
  have h5 := hW _ hi
  have h6 : (L.drop (p + 1)).length ≤ 200 := by simp; omega
  have hr := roundC h hi (fun q hq e => by
   obtain ⟨r, hr, hre⟩ := List.getElem_of_mem (ho.dep p hpl q hq)
   have hrp : r < p := by have := hr; simp at this; omega
   rw [List.getElem_take] at hre
   have := Z75 ho.nodup (by omega : r < L.length) hpl (hre.trans e)
   omega) hc.len ⟨by omega, by omega⟩ (((ints (L.take p)).reverse.length : Nat) : Int)
  rw [e]
  simp only [Zcp, hr]
  exact h1
theorem Zds (h : Wr l) {L : List Nat} {d : List Bool} (hf : Q8.f l = some (ints L, decide (L.length = l.length))) (ho : Od l L d) (hL : L.length = l.length) (hW : ∀ i, i < l.length → 0 ≤ wsz l i ∧ wsz l i ≤ 1000000) :
  Tp l.length (Af l) L ∧ ∃ o, Qa.f l = some o ∧ Fi l.length (Af l) (wsz l) o := by
 have ht := ho.tp hL
 have hl := h.len
 have h0 : Cr l.length (Af l) (wsz l) (L.drop L.length) (List.replicate l.length 0) := by rw [List.drop_length]; exact Cr.nil
 obtain ⟨o, h1, h2⟩ := backC h ht (by omega) hW L.length (Nat.le_refl _) _ h0
 rw [List.take_length] at h1
 have h1' : Qa.l0 l (ints L) (List.replicate l.length 0) = some (.inl o) := h1
 have hil : (ints L).length = L.length := by simp [ints]
 refine ⟨ht, o, ?_, h2.fi ht⟩
 unfold Qa.f
 simp only [hf, ob_s, Q1r.f, Int.toNat_natCast, h1', Z17]
 rw [Z0 (by omega), Z0 (by rw [hil]; omega)]
end Go.Proofs.YtcphmeggalaplaaDoor
set_option linter.unusedVariables false
set_option linter.unusedSimpArgs false
namespace Go.Proofs.YtcphmeggalaplaaDoor
open Go Go.Lib Go.Proofs.YtcphmeggalaplaaDoor.Eng
def Z9f (c : UInt8) : Bool := decide (97 ≤ c.toNat ∧ c.toNat ≤ 122) || decide (48 ≤ c.toNat ∧ c.toNat ≤ 57) || decide (c.toNat = 45) || decide (c.toNat = 95)
theorem Z5n {p : UInt8 → Bool} : ∀ {l : List UInt8}, l.dropWhile p = [] ↔ l.all p = true
 | [] => by simp
 | x :: l => by
  rw [List.dropWhile_cons, List.all_cons]
  cases h : p x with
  | true => simp only [if_true, Bool.true_and]; exact Z5n
  | false => simp
theorem Z5o {p : UInt8 → Bool} : ∀ {l : List UInt8}, (l.dropWhile p).all p = l.all p
 | [] => rfl
 | x :: l => by
  rw [List.dropWhile_cons]
  cases h : p x with
  | true => simp only [if_true, List.all_cons, h, Bool.true_and]; exact Z5o
  | false => simp only [Bool.false_eq_true, if_false]
theorem Zi7 (l cs : List UInt8) : trimS l cs = [] ↔ l.all (fun c => cs.contains c) = true := by
 have e1 : trimLeftS (trimRightS l cs) cs = ((l.reverse.dropWhile (cs.contains ·)).reverse).dropWhile (cs.contains ·) := rfl
 unfold trimS
 rw [e1, Z5n, List.all_reverse, Z5o, List.all_reverse]
abbrev wordCs : ByteArray := Qz
theorem Zi4 (c : UInt8) : wordCs.data.toList.contains c = Z9f c := by
 have key : ∀ n : Fin 256, wordCs.data.toList.contains (UInt8.ofNat n.val) = Z9f (UInt8.ofNat n.val) := by decide +kernel
 have h := key ⟨c.toNat, c.toNat_lt⟩
 simp only [UInt8.ofNat_toNat] at h
 exact h
def Z3w (s : ByteArray) : Bool := if 1 ≤ s.size ∧ s.size ≤ 40 then (decide (97 ≤ (bt s 0).toNat ∧ (bt s 0).toNat ≤ 122) && s.data.toList.all Z9f) else false
theorem Z3a (s : ByteArray) : Q1d.f s = some (Z3w s) := by
 unfold Q1d.f Z3w
 simp only [Z2]
 by_cases h1 : ((s.size : Nat) : Int) < 1
 ·rw [if_pos h1, if_neg (by omega)]
 ·by_cases h2 : (40 : Int) < ((s.size : Nat) : Int)
  ·rw [if_neg h1, if_pos h2, if_neg (by omega)]
  ·rw [if_neg h1, if_neg h2, Z0 (by omega), Z0 (by omega), if_pos (show 1 ≤ s.size ∧ s.size ≤ 40 by omega)]
   by_cases h3 : ((UInt8.toNat (bt s 0) : Nat) : Int) < 97
   ·rw [if_pos h3, decide_eq_false (by omega), Bool.false_and]
   ·by_cases h4 : (122 : Int) < ((UInt8.toNat (bt s 0) : Nat) : Int)
    ·rw [if_neg h3, if_pos h4, decide_eq_false (by omega), Bool.false_and]
    ·rw [if_neg h3, if_neg h4, decide_eq_true (by omega), Bool.true_and]
     unfold Q28.f
     rw [Z0 ⟨by omega, by decide, by decide +kernel⟩, ob_s]
     congr 1
     have h5 : (⟨(trimS s.data.toList wordCs.data.toList).toArray⟩ : ByteArray) = bs_ ↔ s.data.toList.all Z9f = true := by
      have e : s.data.toList.all Z9f = s.data.toList.all (fun c => wordCs.data.toList.contains c) := by
       congr 1; funext c; exact (Zi4 c).symm
      rw [e, ← Zi7]
      constructor
      ·intro h
       have := congrArg (fun b : ByteArray => b.data.toList) h
       have h7 : trimS s.data.toList wordCs.data.toList = bs_.data.toList := by simpa using this
       exact h7.trans rfl
      ·intro h
       rw [h]; rfl
     cases h6 : s.data.toList.all Z9f with
     | true => exact decide_eq_true (h5.2 h6)
     | false => exact decide_eq_false (fun h => by rw [h5.1 h] at h6; cases h6)
end Go.Proofs.YtcphmeggalaplaaDoor
set_option linter.unusedVariables false
set_option linter.unusedSimpArgs false
namespace Go.Proofs.YtcphmeggalaplaaDoor
open Go Go.Lib Go.Proofs.YtcphmeggalaplaaDoor.Eng
theorem upLoop {R : Type} {N : Nat} {f : Int → Option (Int ⊕ R)} (hend : ∃ r, f (N : Int) = some (.inr r)) (hst : ∀ k : Nat, k < N → (∃ r, f (k : Int) = some (.inr r)) ∨ f (k : Int) = some (.inl ((k + 1 : Nat) : Int))) : ∀ (n k : Nat), N - k = n → k ≤ N → ∃ r, Zl f (k : Int) = some r := by
 intro n
 induction n with
 | zero =>
  intro k hn hk
  obtain ⟨r, hr⟩ := hend
  have e : k = N := by omega
  subst e
  exact ⟨r, Z1 hr⟩
 | succ n ih =>
  intro k hn hk
  rcases hst k (by omega) with ⟨r, hr⟩ | hr
  ·exact ⟨r, Z1 hr⟩
  ·obtain ⟨r, h⟩ := ih (k + 1) (by omega) (by omega)
   exact ⟨r, (Z4 hr).trans h⟩
theorem Zf0 (a : List (ByteArray × ByteArray)) : ∃ f, Qo.f a = some f := by
 unfold Qo.f
 simp only [Z2]
 by_cases h1 : (30 : Int) < ((a.length : Nat) : Int)
 ·rw [if_pos h1]; exact ⟨_, rfl⟩
 ·rw [if_neg h1]
  have hl : ∃ r, Qo.l0 a a ((a.length : Nat) : Int) 0 = some r := by
   refine upLoop (N := a.length) ⟨.inr (), ?_⟩ (fun k hlt => ?_) a.length 0 (by omega) (Nat.zero_le _)
   ·simp only [Qo.s0, Z2]
    rw [if_neg (by omega)]
   ·simp only [Qo.s0, Z2, Zg hlt, Z3a, ob_s]
    rw [if_pos (by omega), Z0 (by omega)]
    cases Z3w a[k].1 with
    | false => exact .inl ⟨_, rfl⟩
    | true =>
     cases Z3w a[k].2 with
     | false => exact .inl ⟨_, rfl⟩
     | true =>
      simp only [Bool.not_true, cb_f]
      by_cases h0 : (0 : Int) < (k : Int)
      ·rw [if_pos h0, Ze (by omega) (by omega), Z0 (by omega)]
       cases (Z48 a[k].1 (rd (ByteArray.empty, ByteArray.empty) a ((k : Int) - 1)).1 || decide (a[k].1 = (rd (ByteArray.empty, ByteArray.empty) a ((k : Int) - 1)).1)) with
       | true => exact .inl ⟨_, rfl⟩
       | false =>
        simp only [cb_f]
        rw [Ze (by omega) (by omega)]
        exact .inr rfl
      ·rw [if_neg h0, Ze (by omega) (by omega)]
       exact .inr rfl
  obtain ⟨r, hr⟩ := hl
  rw [hr, ob_s]
  cases r with
  | inl x => exact ⟨_, rfl⟩
  | inr x => exact ⟨_, rfl⟩
end Go.Proofs.YtcphmeggalaplaaDoor
set_option linter.unusedVariables false
set_option linter.unusedSimpArgs false
namespace Go.Proofs.YtcphmeggalaplaaDoor
open Go Go.Lib Go.Proofs.YtcphmeggalaplaaDoor.Eng
theorem aftLoop (x : Wk) (ha : x.2.2.2.length ≤ 9000000000000) : ∀ (n k : Nat), x.2.2.2.length - k = n → k ≤ x.2.2.2.length →
  (∃ f : Int, f ≠ 0 ∧ Qf.l0 x x.2.2.2 (x.2.2.2.length : Int) (k : Int) = some (.inl f)) ∨
  (Qf.l0 x x.2.2.2 (x.2.2.2.length : Int) (k : Int) = some (.inr ()) ∧ (∀ s ∈ x.2.2.2.drop k, Z3w s = true) ∧ ∀ i : Nat, ∀ h : i + 1 < x.2.2.2.length, k ≤ i + 1 → cmpS (x.2.2.2[i]'(by omega)) x.2.2.2[i + 1] < 0) := by
 obtain ⟨x1, x2, x3, a⟩ := x
 simp only at ha ⊢
 intro n
 induction n with
 | zero =>
  intro k hn hk
  have e : k = a.length := by omega
  subst e
  refine .inr ⟨Z1 ?_, by simp, fun i h h' => by omega⟩
  simp only [Qf.s0, Z2]
  rw [if_neg (by omega)]
 | succ n ih =>
  intro k hn hk
  have hlt : k < a.length := by omega
  have nxt : Qf.s0 (x1, x2, x3, a) a (a.length : Int) (k : Int) = some (.inl ((k + 1 : Nat) : Int)) → Z3w a[k] = true → (∀ h0 : 0 < k, cmpS (a[k - 1]'(by omega)) a[k] < 0) →
    (∃ f : Int, f ≠ 0 ∧ Qf.l0 (x1, x2, x3, a) a (a.length : Int) (k : Int) = some (.inl f)) ∨ (Qf.l0 (x1, x2, x3, a) a (a.length : Int) (k : Int) = some (.inr ()) ∧ (∀ s ∈ a.drop k, Z3w s = true) ∧ ∀ i : Nat, ∀ h : i + 1 < a.length, k ≤ i + 1 → cmpS (a[i]'(by omega)) a[i + 1] < 0) := fun st hw hc => by
   have nx : Qf.l0 (x1, x2, x3, a) a (a.length : Int) (k : Int) = Qf.l0 (x1, x2, x3, a) a (a.length : Int) ((k + 1 : Nat) : Int) := Z4 st
   rw [nx]
   rcases ih (k + 1) (by omega) (by omega) with h | ⟨h1, h2, h3⟩
   ·exact .inl h
   ·refine .inr ⟨h1, fun s hs => ?_, fun i h hki => ?_⟩
    ·rw [List.drop_eq_getElem_cons hlt] at hs
     rcases List.mem_cons.1 hs with rfl | hs
     ·exact hw
     ·exact h2 s hs
    ·rcases Nat.lt_or_ge i k with hik | hik
     ·have e : k = i + 1 := by omega
      subst e
      exact hc (by omega)
     ·exact h3 i h (by omega)
  cases hw : Z3w a[k] with
  | false =>
   refine .inl ⟨5, by decide, Z1 ?_⟩
   simp only [Qf.s0, Z2, Zg hlt, Z3a, ob_s, hw, Bool.not_false, cb_t]
   rw [if_pos (by omega), Z0 (by omega)]
  | true =>
   rcases Nat.eq_zero_or_pos k with h0 | h0
   ·subst h0
    refine nxt ?_ hw (fun h => by omega)
    simp only [Qf.s0, Z2, Zg hlt, Z3a, ob_s, hw, Bool.not_true, cb_f]
    rw [if_pos (by omega), Z0 (by omega), if_neg (by omega), Ze (by omega) (by omega)]
    rfl
   ·have hp : k - 1 < a.length := by omega
    have ep : (k : Int) - 1 = ((k - 1 : Nat) : Int) := by omega
    by_cases hc : cmpS a[k] a[k - 1] ≤ 0
    ·refine .inl ⟨8, by decide, Z1 ?_⟩
     simp only [Qf.s0, Z2, Zg hlt, Z3a, ob_s, hw, Bool.not_true, cb_f, ep, Zg hp, Z1y]
     rw [if_pos (by omega), Z0 (by omega), if_pos (by omega), Ze (by omega) (by omega), Z0 (by omega), if_pos hc]
    ·refine nxt ?_ hw (fun h => by have := Z3e a[k] a[k - 1]; omega)
     simp only [Qf.s0, Z2, Zg hlt, Z3a, ob_s, hw, Bool.not_true, cb_f, ep, Zg hp, Z1y]
     rw [if_pos (by omega), Z0 (by omega), if_pos (by omega), Ze (by omega) (by omega), Z0 (by omega), if_neg hc, Ze (by omega) (by omega)]
     rfl
end Go.Proofs.YtcphmeggalaplaaDoor
set_option linter.unusedVariables false
set_option linter.unusedSimpArgs false
namespace Go.Proofs.YtcphmeggalaplaaDoor
open Go Go.Lib Go.Proofs.YtcphmeggalaplaaDoor.Eng
structure Ok1 (x : Wk) : Prop where
 id : Z3w x.1 = true
 size : 1 ≤ x.2.2.1 ∧ x.2.2.1 ≤ 1000000
 ris : Rising x.2.2.2
 aft : ∀ s ∈ x.2.2.2, Z3w s = true
theorem chkWork (x : Wk) (ha : x.2.2.2.length ≤ 9000000000000) : ∃ f, Qf.f x = some f ∧ (f = 0 → Ok1 x) := by
 unfold Qf.f
 simp only [Z3a, ob_s]
 cases hw : Z3w x.1 with
 | false => exact ⟨_, rfl, fun h => by cases h⟩
 | true =>
  obtain ⟨g, hg⟩ := Zf0 x.2.1
  simp only [Bool.not_true, cb_f, hg, ob_s]
  by_cases h0 : g = 0
  ·simp only [h0, decide_true, Bool.not_true, cb_f]
   have hwi : Q1n.f x.2.2.1 1 1000000 = some (decide (1 ≤ x.2.2.1 ∧ x.2.2.1 ≤ 1000000)) := by
    unfold Q1n.f
    simp only [Z2]
    by_cases h1 : 1 ≤ x.2.2.1
    ·rw [if_pos h1]; simp [h1]
    ·rw [if_neg h1]; simp [h1]
   simp only [hwi, ob_s]
   by_cases hs : 1 ≤ x.2.2.1 ∧ x.2.2.1 ≤ 1000000
   ·simp only [decide_eq_true hs, Bool.not_true, cb_f]
    rcases aftLoop x ha x.2.2.2.length 0 (by omega) (Nat.zero_le _) with ⟨f, h1, h2⟩ | ⟨h1, h2, h3⟩
    ·rw [show ((0 : Nat) : Int) = 0 from rfl] at h2
     simp only [h2, ob_s, Z17]
     exact ⟨f, rfl, fun e => absurd e h1⟩
    ·rw [show ((0 : Nat) : Int) = 0 from rfl] at h1
     simp only [h1, ob_s, Z17]
     exact ⟨0, rfl, fun _ => ⟨hw, hs, Z3j (fun k hk => h3 k hk (Nat.zero_le _)), by simpa using h2⟩⟩
   ·simp only [decide_eq_false hs, Bool.not_false, cb_t]
    exact ⟨_, rfl, fun h => by cases h⟩
  ·simp only [decide_eq_false h0, Bool.not_false, cb_t]
   exact ⟨_, rfl, fun h => absurd h h0⟩
end Go.Proofs.YtcphmeggalaplaaDoor
set_option linter.unusedVariables false
set_option linter.unusedSimpArgs false
namespace Go.Proofs.YtcphmeggalaplaaDoor
open Go Go.Lib Go.Proofs.YtcphmeggalaplaaDoor.Eng
variable {l : List Wk}
theorem Zfk (hl : l.length ≤ 200) (ha : ∀ x ∈ l, x.2.2.2.length ≤ 9000000000000) : ∀ (n k : Nat), l.length - k = n → k ≤ l.length →
  (∃ f : Int, f ≠ 0 ∧ Q2.l0 l l (l.length : Int) (k : Int) = some (.inl f)) ∨
  (Q2.l0 l l (l.length : Int) (k : Int) = some (.inr ()) ∧ (∀ x ∈ l.drop k, Ok1 x) ∧ ∀ i : Nat, ∀ h : i + 1 < l.length, k ≤ i + 1 → cmpS (l[i]'(by omega)).1 l[i + 1].1 < 0) := by
 intro n
 induction n with
 | zero =>
  intro k hn hk
  have e : k = l.length := by omega
  subst e
  refine .inr ⟨Z1 ?_, by simp, fun i h h' => by omega⟩
  simp only [Q2.s0, Z2]
  rw [if_neg (by omega)]
 | succ n ih =>
  intro k hn hk
  have hlt : k < l.length := by omega
  have nxt : Q2.s0 l l (l.length : Int) (k : Int) = some (.inl ((k + 1 : Nat) : Int)) → Ok1 l[k] → (∀ h0 : 0 < k, cmpS (l[k - 1]'(by omega)).1 l[k].1 < 0) →
    (∃ f : Int, f ≠ 0 ∧ Q2.l0 l l (l.length : Int) (k : Int) = some (.inl f)) ∨ (Q2.l0 l l (l.length : Int) (k : Int) = some (.inr ()) ∧ (∀ x ∈ l.drop k, Ok1 x) ∧ ∀ i : Nat, ∀ h : i + 1 < l.length, k ≤ i + 1 → cmpS (l[i]'(by omega)).1 l[i + 1].1 < 0) := fun st hw hc => by
   have nx : Q2.l0 l l (l.length : Int) (k : Int) = Q2.l0 l l (l.length : Int) ((k + 1 : Nat) : Int) := Z4 st
   rw [nx]
   rcases ih (k + 1) (by omega) (by omega) with h | ⟨h1, h2, h3⟩
   ·exact .inl h
   ·refine .inr ⟨h1, fun s hs => ?_, fun i h hki => ?_⟩
    ·rw [List.drop_eq_getElem_cons hlt] at hs
     rcases List.mem_cons.1 hs with rfl | hs
     ·exact hw
     ·exact h2 s hs
    ·rcases Nat.lt_or_ge i k with hik | hik
     ·have e : k = i + 1 := by omega
      subst e
      exact hc (by omega)
     ·exact h3 i h (by omega)
  obtain ⟨f, hf, hok⟩ := chkWork l[k] (ha _ (List.getElem_mem hlt))
  by_cases h0 : f = 0
  ·subst h0
   rcases Nat.eq_zero_or_pos k with hk0 | hk0
   ·subst hk0
    refine nxt ?_ (hok rfl) (fun h => by omega)
    simp only [Q2.s0, Z2, Zg hlt, hf, ob_s, decide_true, Bool.not_true, cb_f]
    rw [if_pos (by omega), Z0 (by omega), if_neg (by omega), Ze (by omega) (by omega)]
    rfl
   ·have hp : k - 1 < l.length := by omega
    have ep : (k : Int) - 1 = ((k - 1 : Nat) : Int) := by omega
    by_cases hc : cmpS l[k].1 l[k - 1].1 ≤ 0
    ·refine .inl ⟨8, by decide, Z1 ?_⟩
     simp only [Q2.s0, Z2, Zg hlt, hf, ob_s, decide_true, Bool.not_true, cb_f, ep, Zg hp, Z1y]
     rw [if_pos (by omega), Z0 (by omega), if_pos (by omega), Ze (by omega) (by omega), Z0 (by omega), if_pos hc]
    ·refine nxt ?_ (hok rfl) (fun h => by have := Z3e l[k].1 l[k - 1].1; omega)
     simp only [Q2.s0, Z2, Zg hlt, hf, ob_s, decide_true, Bool.not_true, cb_f, ep, Zg hp, Z1y]
     rw [if_pos (by omega), Z0 (by omega), if_pos (by omega), Ze (by omega) (by omega), Z0 (by omega), if_neg hc, Ze (by omega) (by omega)]
     rfl
  ·refine .inl ⟨f, h0, Z1 ?_⟩
   simp only [Q2.s0, Z2, Zg hlt, hf, ob_s, decide_eq_false h0, Bool.not_false, cb_t]
   rw [if_pos (by omega), Z0 (by omega)]
end Go.Proofs.YtcphmeggalaplaaDoor
set_option linter.unusedVariables false
set_option linter.unusedSimpArgs false
namespace Go.Proofs.YtcphmeggalaplaaDoor
open Go Go.Lib Go.Proofs.YtcphmeggalaplaaDoor.Eng
variable {l : List Wk}
abbrev There (l : List Wk) (s : ByteArray) : Prop := ∃ k : Nat, ∃ h : k < l.length, l[k].1 = s
theorem Zhy (hl : l.length ≤ 200) (hr : Rising (ids l)) {a : List ByteArray} (ha : a.length ≤ 9000000000000) : ∀ (n k : Nat), a.length - k = n → k ≤ a.length →
  Q2.l2 l a (a.length : Int) (k : Int) = some (.inl 9) ∨ (Q2.l2 l a (a.length : Int) (k : Int) = some (.inr ()) ∧ ∀ s ∈ a.drop k, There l s) := by
 intro n
 induction n with
 | zero =>
  intro k hn hk
  have e : k = a.length := by omega
  subst e
  refine .inr ⟨Z1 ?_, by simp⟩
  simp only [Q2.s2, Z2]
  rw [if_neg (by omega)]
 | succ n ih =>
  intro k hn hk
  have hlt : k < a.length := by omega
  obtain ⟨c, b, h1, h2, h3⟩ := Zjm (g := l) (by omega) hr a[k]
  rcases h3 with ⟨rfl, h4, h5⟩ | ⟨rfl, _⟩
  ·have st : Q2.s2 l a (a.length : Int) (k : Int) = some (.inl ((k + 1 : Nat) : Int)) := by
    simp only [Q2.s2, Z2, Zg hlt, h1, ob_s, Bool.not_true, cb_f]
    rw [if_pos (by omega), Z0 (by omega), Ze (by omega) (by omega)]
    rfl
   have nx : Q2.l2 l a (a.length : Int) (k : Int) = Q2.l2 l a (a.length : Int) ((k + 1 : Nat) : Int) := Z4 st
   rw [nx]
   rcases ih (k + 1) (by omega) (by omega) with h | ⟨h6, h7⟩
   ·exact .inl h
   ·refine .inr ⟨h6, fun s hs => ?_⟩
    rw [List.drop_eq_getElem_cons hlt] at hs
    rcases List.mem_cons.1 hs with rfl | hs
    ·exact ⟨c, h4, h5⟩
    ·exact h7 s hs
  ·refine .inl (Z1 ?_)
   simp only [Q2.s2, Z2, Zg hlt, h1, ob_s, Bool.not_false, cb_t]
   rw [if_pos (by omega), Z0 (by omega)]
theorem Zft (hl : l.length ≤ 200) (hr : Rising (ids l)) (ha : ∀ x ∈ l, x.2.2.2.length ≤ 9000000000000) : ∀ (n k : Nat), l.length - k = n → k ≤ l.length →
  Q2.l1 l l (l.length : Int) (k : Int) = some (.inl 9) ∨ (Q2.l1 l l (l.length : Int) (k : Int) = some (.inr ()) ∧ ∀ x ∈ l.drop k, ∀ s ∈ x.2.2.2, There l s) := by
 intro n
 induction n with
 | zero =>
  intro k hn hk
  have e : k = l.length := by omega
  subst e
  refine .inr ⟨Z1 ?_, by simp⟩
  simp only [Q2.s1, Z2]
  rw [if_neg (by omega)]
 | succ n ih =>
  intro k hn hk
  have hlt : k < l.length := by omega
  rcases Zhy hl hr (ha _ (List.getElem_mem hlt)) _ 0 rfl (Nat.zero_le _) with h1 | ⟨h1, h2⟩
  ·rw [show ((0 : Nat) : Int) = 0 from rfl] at h1
   refine .inl (Z1 ?_)
   simp only [Q2.s1, Z2, Zg hlt, h1, ob_s, Z17]
   rw [if_pos (by omega), Z0 (by omega)]
  ·rw [show ((0 : Nat) : Int) = 0 from rfl] at h1
   have st : Q2.s1 l l (l.length : Int) (k : Int) = some (.inl ((k + 1 : Nat) : Int)) := by
    simp only [Q2.s1, Z2, Zg hlt, h1, ob_s, Z17]
    rw [if_pos (by omega), Z0 (by omega), Ze (by omega) (by omega)]
    rfl
   have nx : Q2.l1 l l (l.length : Int) (k : Int) = Q2.l1 l l (l.length : Int) ((k + 1 : Nat) : Int) := Z4 st
   rw [nx]
   rcases ih (k + 1) (by omega) (by omega) with h | ⟨h6, h7⟩
   ·exact .inl h
   ·refine .inr ⟨h6, fun x hx => ?_⟩
    rw [List.drop_eq_getElem_cons hlt] at hx
    rcases List.mem_cons.1 hx with rfl | hx
    ·simpa using h2
    ·exact h7 x hx
theorem Zaw (ha : ∀ x ∈ l, x.2.2.2.length ≤ 9000000000000) : (∃ f : Int, f ≠ 0 ∧ Q2.f l = some f) ∨
  (Q2.f l = some 0 ∧ Wr l ∧ (∀ x ∈ l, Ok1 x) ∧ ∃ (L : List Nat) (d : List Bool), Q8.f l = some (ints L, decide (L.length = l.length)) ∧ Od l L d ∧ L.length = l.length) := by
 unfold Q2.f
 simp only [Z2]
 by_cases h0 : (200 : Int) < ((l.length : Nat) : Int)
 ·rw [if_pos h0]; exact .inl ⟨2, by decide, rfl⟩
 ·rw [if_neg h0]
  have hl : l.length ≤ 200 := by omega
  rcases Zfk hl ha _ 0 rfl (Nat.zero_le _) with ⟨f, hf, h1⟩ | ⟨h1, h2, h3⟩
  ·rw [show ((0 : Nat) : Int) = 0 from rfl] at h1
   simp only [h1, ob_s, Z17]
   exact .inl ⟨f, hf, rfl⟩
  ·rw [show ((0 : Nat) : Int) = 0 from rfl] at h1
   have hr : Rising (ids l) := Z3j fun k hk => by
    have hk' : k + 1 < l.length := by unfold ids at hk; simpa using hk
    rw [Z44 hk', Z44 (show k < l.length by omega)]
    exact h3 k hk' (Nat.zero_le _)
   simp only [h1, ob_s, Z17]
   rcases Zft hl hr ha _ 0 rfl (Nat.zero_le _) with h4 | ⟨h4, h5⟩
   ·rw [show ((0 : Nat) : Int) = 0 from rfl] at h4
    simp only [h4, ob_s, Z17]
    exact .inl ⟨9, by decide, rfl⟩
   ·rw [show ((0 : Nat) : Int) = 0 from rfl] at h4
    have hw : Wr l := ⟨hl, hr, ha, fun x hx => h5 x (by simpa using hx)⟩
    obtain ⟨L, d, h6, h7⟩ := Zf1 hw
    simp only [h4, ob_s, Z17, h6]
    by_cases hL : L.length = l.length
    ·simp only [decide_eq_true hL, Bool.not_true, cb_f]
     exact .inr ⟨trivial, hw, by simpa using h2, L, d, by rw [decide_eq_true hL], h7, hL⟩
    ·simp only [decide_eq_false hL, Bool.not_false, cb_t]
     exact .inl ⟨17, by decide, rfl⟩
end Go.Proofs.YtcphmeggalaplaaDoor
set_option linter.unusedVariables false
set_option linter.unusedSimpArgs false
namespace Go.Proofs.YtcphmeggalaplaaDoor
open Go Go.Lib Go.Proofs.YtcphmeggalaplaaDoor Go.Proofs.YtcphmeggalaplaaDoor.Eng
abbrev labB (s : ByteArray) : ByteArray := Q2a ++ s
theorem Zcq {a b : ByteArray} (h : a.data.toList = b.data.toList) : a = b := by
 cases a; cases b; congr 1; exact Array.toList_inj.1 h
theorem Zas (a b : ByteArray) : (a ++ b).data.toList = a.data.toList ++ b.data.toList := by simp
theorem Zaf (s : ByteArray) (a b : Nat) : (s.extract a b).data.toList = (s.data.toList.take b).drop a := by
 simp [ByteArray.data_extract, List.drop_take]
theorem Z5g (s : ByteArray) : (labB s).data.toList = 47 :: 47 :: 58 :: s.data.toList := by rw [Zas]; rfl
theorem cmpL_self : ∀ (x : UInt8) (a b : List UInt8), Lib.compareBytes (x :: a) (x :: b) = Lib.compareBytes a b := fun x a b => by
 have h : ¬ x < x := by simp
 unfold Lib.compareBytes
 rw [if_neg h, if_neg h]
 cases a <;> cases b <;> rfl
theorem cmp_lab (a b : ByteArray) : cmpS (labB a) (labB b) = cmpS a b := by
 unfold cmpS
 rw [Z5g, Z5g, cmpL_self, cmpL_self, cmpL_self]
theorem Zj0 {a b : ByteArray} (h : labB a = labB b) : a = b := by
 have := congrArg (fun x : ByteArray => x.data.toList) h
 simp only [Z5g, List.cons.injEq, true_and] at this
 exact Zcq this
theorem Zay (c : UInt8) (h : Z9f c = true) : Zbo c = true ∧ c ≠ 47 := by
 have key : ∀ n : Fin 256, Z9f (UInt8.ofNat n.val) = true → Zbo (UInt8.ofNat n.val) = true ∧ UInt8.ofNat n.val ≠ 47 := by decide +kernel
 have h' := key ⟨c.toNat, c.toNat_lt⟩
 simp only [UInt8.ofNat_toNat] at h'
 exact h' h
theorem Z5w {s : ByteArray} (h : Z3w s = true) : (1 ≤ s.size ∧ s.size ≤ 40) ∧ (97 ≤ (bt s 0).toNat ∧ (bt s 0).toNat ≤ 122) ∧ ∀ c ∈ s.data.toList, Z9f c = true := by
 unfold Z3w at h
 split at h
 ·rename_i h1
  rw [Bool.and_eq_true] at h
  exact ⟨h1, of_decide_eq_true h.1, List.all_eq_true.1 h.2⟩
 ·cases h
theorem Zeu {s : ByteArray} (h : Z3w s = true) : Q1e.f s Q2d = some [s] := by
 obtain ⟨h1, _, h3⟩ := Z5w h
 have hc : Lib.countByte s.data.toList 47 = 0 := List.count_eq_zero.2 fun hm => (Zay _ (h3 _ hm)).2 rfl
 have hcnt : Q24.f s Q2d = some 0 := by
  show ck _ _ = _
  rw [Z0 (by rfl)]
  show some ((Lib.countByte s.data.toList 47 : Nat) : Int) = _
  rw [hc]; rfl
 have e1 : ¬ (Q2d = bs_) := by decide
 have hy : min ((0 : Int) + 1) (((s.size : Nat) : Int) + 1) = 1 := by omega
 unfold Q1e.f Qm.f
 simp only [Z2, hcnt, ob_s, hy]
 rw [if_neg (by decide), if_neg e1, if_pos (by decide), Ze (by omega) (by omega), Ze (by omega) (by omega), Z0 (by omega), Ze (by omega) (by omega)]
 have hl : Qm.l0 Q2d 0 ((1 : Int) - 1) s 0 (List.replicate (Int.toNat 1) ByteArray.empty) = some (s, 0, [ByteArray.empty]) := by
  refine Z1 ?_
  simp only [Qm.s0, Z2]
  rw [if_neg (by omega)]
  rfl
 rw [hl, ob_s]
 simp only
 rw [Z0 (by decide), Z0 (by decide), Ze (by omega) (by omega), Z0 (by simp), ob_s]
 rfl
theorem Zgb {s : ByteArray} (h : Z3w s = true) : Z32 s = true := by
 obtain ⟨h1, h2, h3⟩ := Z5w h
 have e : Z22 s = [s] := by unfold Z22; rw [Zeu h]; rfl
 unfold Z32
 rw [if_pos (by omega), e]
 have hb : s.data.toList.all Zbo = true := List.all_eq_true.2 fun c hc => (Zay c (h3 c hc)).1
 have n0 : s ≠ bs_ := fun e => by rw [e] at h1; exact absurd h1.1 (by decide)
 have n1 : s ≠ Q2k := fun e => by rw [e] at h2; exact absurd h2 (by decide)
 have n2 : s ≠ Q2j := fun e => by rw [e] at h2; exact absurd h2 (by decide)
 simp [Z6b, hb, n0, n1, n2]
theorem Zaz {s : ByteArray} (h : Z3w s = true) : Q15.f (labB s) = some true := by
 obtain ⟨h1, h2, h3⟩ := Z5w h
 have hz : (labB s).size = 3 + s.size := by rw [ByteArray.size_append]; rfl
 have hc : cutP (labB s) Q1t = (Q26 ++ s, true) := by
  have e1 : (labB s).extract 0 Q1t.size = Q1t := Zcq (by rw [Zaf, Z5g]; rfl)
  have e2 : (labB s).extract Q1t.size (labB s).size = Q26 ++ s := Zcq (by
   rw [Zaf, List.take_of_length_le (by rw [← Z1s]; exact Nat.le_refl _), Z5g, Zas]; rfl)
  have e3 : hasP (labB s) Q1t = true := by
   unfold hasP
   rw [e1, decide_eq_true rfl, decide_eq_true (by rw [hz]; exact (show (2 : Nat) ≤ 3 + s.size by omega))]; rfl
  unfold cutP
  rw [e3, if_pos rfl, e2]
 have hl : (Q26 ++ s).data.toList = 58 :: s.data.toList := by rw [Zas]; rfl
 have hz2 : (Q26 ++ s).size = 1 + s.size := by rw [ByteArray.size_append]; rfl
 have hd : Z8o (Q26 ++ s) = (bs_, s, true) := by
  have e1 : Lib.indexByte (Q26 ++ s).data.toList 58 = 0 := by rw [hl]; rfl
  unfold Z8o
  rw [e1, if_pos (Int.le_refl _)]
  refine Prod.ext (Zcq ?_) (Prod.ext (Zcq ?_) rfl)
  ·show ((Q26 ++ s).extract 0 0).data.toList = _
   rw [Zaf]; rfl
  ·show ((Q26 ++ s).extract 1 (Q26 ++ s).size).data.toList = _
   rw [Zaf, List.take_of_length_le (by rw [← Z1s]; exact Nat.le_refl _), hl]; rfl
 have hb : BIG = 140737488355328 := rfl
 have hf : Qy.f (bs_, s) = some 0 := by
  rw [Z5p]; unfold labF
  rw [if_pos ⟨.inl rfl, Zgb h⟩]
 have hr : Q1a.f (labB s) bs_ = some ((bs_, s), 0) := by
  unfold Q1a.f
  simp only [decide_true, Bool.not_true, cb_f, Z46, ob_s, hc, cb_t]
  rw [Zju (by omega), ob_s, hd]
  simp only [Bool.not_true, cb_f, hf, ob_s, decide_true]
 have hw : Q1m.f (bs_, s) = some (labB s) := by
  unfold Q1m.f
  have e1 : Q1t.size = 2 := rfl
  have e2 : Q26.size = 1 := rfl
  have e3 : bs_.size = 0 := rfl
  simp only [ByteArray.size_append, e1, e2, e3]
  rw [Z0 (by omega), Z0 (by omega), Z0 (by omega)]
  rfl
 unfold Q15.f
 rw [hr]
 simp only [ob_s, decide_true, cb_t, hw]
theorem name_work : Qn.f Q1b = some true := by
 have sm : ∀ k : Nat, k < 4 → Q1i.f (bt Q1b (k : Int)) = some true := fun k hk => by
  have : k = 0 ∨ k = 1 ∨ k = 2 ∨ k = 3 := by omega
  rcases this with rfl | rfl | rfl | rfl <;> rfl
 have st : ∀ k : Nat, k < 4 → Qn.s0 Q1b 4 (k : Int) = some (.inl ((k + 1 : Nat) : Int)) := fun k hk => by
  have e1 : Q1b.size = 4 := rfl
  simp only [Qn.s0, Z2, sm k hk, ob_s, Bool.not_true, cb_f]
  rw [if_pos (by omega), Z0 (by omega), Ze (by omega) (by omega)]
  rfl
 have lo : Qn.l0 Q1b 4 0 = some (.inr ()) := by
  have n0 := Z4 (f := fun (x : Int) => Qn.s0 Q1b 4 x) (st 0 (by omega))
  have n1 := Z4 (f := fun (x : Int) => Qn.s0 Q1b 4 x) (st 1 (by omega))
  have n2 := Z4 (f := fun (x : Int) => Qn.s0 Q1b 4 x) (st 2 (by omega))
  have n3 := Z4 (f := fun (x : Int) => Qn.s0 Q1b 4 x) (st 3 (by omega))
  refine (n0.trans (n1.trans (n2.trans (n3.trans (Z1 ?_)))))
  simp only [Qn.s0, Z2]
  rw [if_neg (by omega)]
 have e1 : ((Q1b.size : Nat) : Int) = 4 := rfl
 have hc : ∃ r : Int, Q9.f [Q29, Q2e, Q2h, Q2i, Q2b, Q2f, Q27, Q25] Q1b = some r ∧ r = -1 := by
  obtain ⟨r, h1, h2⟩ := contS [Q29, Q2e, Q2h, Q2i, Q2b, Q2f, Q27, Q25] (by decide) Q1b
  refine ⟨r, h1, ?_⟩
  rcases h2 with ⟨h2, _⟩ | ⟨k, _, hk, he, _⟩
  ·exact h2
  ·have hm := List.getElem_mem hk
   rw [he] at hm
   simp only [List.mem_cons, List.not_mem_nil, or_false] at hm
   rcases hm with e | e | e | e | e | e | e | e <;> exact absurd (congrArg (fun x : ByteArray => x.data.toList) e) (by decide)
 obtain ⟨r, h1, h2⟩ := hc
 unfold Qn.f
 simp only [e1, Z2]
 rw [if_neg (by omega), if_neg (by omega), Z0 (by omega)]
 have := sm 0 (by omega)
 rw [show ((0 : Nat) : Int) = 0 from rfl] at this
 simp only [this, ob_s, Bool.not_true, cb_f, lo, Z17, Q1s.f, Qt.f, h1, h2]
 rfl
end Go.Proofs.YtcphmeggalaplaaDoor
set_option linter.unusedVariables false
set_option linter.unusedSimpArgs false
namespace Go.Proofs.YtcphmeggalaplaaDoor
open Go Go.Lib Go.Proofs.YtcphmeggalaplaaDoor Go.Proofs.YtcphmeggalaplaaDoor.Eng
def gN (x : Wk) : Nd := (labB x.1, (Q1b, (x.2.2.2.map labB, ([], ([], x.2.2.1)))))
def gOf (l : List Wk) : List Nd := l.map gN
variable {l : List Wk}
theorem g_len : (gOf l).length = l.length := by simp [gOf]
theorem Zj4 {i : Nat} (hi : i < l.length) : (gOf l)[i]'(by rw [g_len]; exact hi) = gN l[i] := by simp [gOf]
theorem g_mem {n : Nd} (h : n ∈ gOf l) : ∃ x ∈ l, n = gN x := by
 obtain ⟨x, hx, e⟩ := List.mem_map.1 h
 exact ⟨x, hx, e.symm⟩
theorem Z9m {a : List ByteArray} (h : Rising a) : Rising (a.map labB) := fun i j hj hij => by
 have hj' : j < a.length := by simpa using hj
 simp only [List.getElem_map]
 rw [cmp_lab]
 exact h i j hj' hij
theorem labs_g : labs (gOf l) = (ids l).map labB := by simp [labs, gOf, ids, gN, List.map_map, Function.comp_def]
theorem Zhz (h : Wr l) {x : Wk} (hx : x ∈ l) (ho : Ok1 x) : x.2.2.2.length ≤ 200 := by
 have hd : (x.2.2.2.map (wpos l)).Nodup := by
  rw [List.Nodup, List.pairwise_iff_getElem]
  intro i j hi hj hij e
  simp only [List.getElem_map] at e
  have hi' : i < x.2.2.2.length := by simpa using hi
  have hj' : j < x.2.2.2.length := by simpa using hj
  obtain ⟨_, h1, h2⟩ := h.at (h.there x hx _ (List.getElem_mem hi'))
  obtain ⟨_, h3, h4⟩ := h.at (h.there x hx _ (List.getElem_mem hj'))
  have e2 : x.2.2.2[i] = x.2.2.2[j] := by rw [← h2, ← h4]; simp only [e]
  have := ho.ris i j hj' hij
  rw [e2, (Z1x _ _).2 rfl] at this
  omega
 have := Z1u (n := l.length) hd (fun y hy => by
  obtain ⟨s, hs, rfl⟩ := List.mem_map.1 hy
  exact (h.at (h.there x hx s hs)).2.1)
 have hl := h.len
 simp at this
 omega
theorem sz_g (ho : ∀ x ∈ l, Ok1 x) : ∀ n ∈ gOf l, szNd n := fun n hn => by
 obtain ⟨x, hx, rfl⟩ := g_mem hn
 have hb : BIG = 140737488355328 := rfl
 have hz : ∀ s, Z3w s = true → (labB s).size ≤ BIG := fun s hs => by
  have := (Z5w hs).1
  have : (labB s).size = 3 + s.size := by rw [ByteArray.size_append]; rfl
  omega
 refine ⟨hz _ (ho x hx).id, fun s hs => ?_, (fun s hs => by cases hs), fun s hs => by cases hs⟩
 obtain ⟨t, ht, rfl⟩ := List.mem_map.1 hs
 exact hz _ ((ho x hx).aft t ht)
theorem chk_g (h : Wr l) {x : Wk} (hx : x ∈ l) (ho : Ok1 x) : Q17.f (gN x) = some 0 := by
 have hl := Zhz h hx ho
 have e1 : Qd.f (x.2.2.2.map labB) () = some 0 := rise_ok (by simp; omega) (fun s hs => by
  obtain ⟨t, ht, rfl⟩ := List.mem_map.1 hs
  exact Zaz (ho.aft t ht)) (Z9m ho.ris)
 have e2 : Qh.f [] () = some 0 := by
  have : Qh.l0 [] [] 0 0 = some (.inr ()) := Z1 rfl
  unfold Qh.f
  simp only [List.length_nil, show ((0 : Nat) : Int) = 0 from rfl, this, ob_s, Z17]
 have e3 : Qi.f [] () = some 0 := by
  have : Qi.l0 [] [] 0 0 = some (.inr ()) := Z1 rfl
  unfold Qi.f
  simp only [List.length_nil, show ((0 : Nat) : Int) = 0 from rfl, this, ob_s, Z17]
 have hs := ho.size
 unfold Q17.f gN
 simp only [Zaz ho.id, name_work, ob_s, Bool.not_true, cb_f, Z2, e1, e2, e3, decide_true, List.length_map, List.length_nil]
 rw [if_neg (by omega), if_neg (by omega), if_neg (by omega), if_neg (by omega), if_neg (by omega)]
theorem pos_g (h : Wr l) {s : ByteArray} (hs : There l s) : posI (gOf l) (labB s) = (wpos l s : Int) := by
 have hl := h.len
 have hr : Rising (labs (gOf l)) := by rw [labs_g]; exact Z9m h.ris
 obtain ⟨_, h1, h2⟩ := h.at hs
 rcases (Zbl (g := gOf l) (by rw [g_len]; omega) hr (labB s)).2 with ⟨h3, h4⟩ | ⟨k, h3, h4, h5⟩
 ·refine absurd ?_ (h4 (wpos l s) (by rw [g_len]; exact h1))
  rw [Zj4 h1]
  show labB l[wpos l s].1 = _
  rw [h2]
 ·have hk : k < l.length := by rwa [g_len] at h4
  rw [Zj4 hk] at h5
  have h6 : l[k].1 = s := Zj0 h5
  have e : k = wpos l s := by
   refine h.ris.inj (i := k) (j := wpos l s) (by unfold ids; simpa using hk) (by unfold ids; simpa using h1) ?_
   rw [Z44 hk, Z44 h1, h6, h2]
  rw [h3, e]
theorem D_g (h : Wr l) {i : Nat} (hi : i < l.length) : D (gOf l) i = ints (Af l i) := by
 rw [Zcw (by rw [g_len]; exact hi), Zj4 hi, Zem hi]
 show (l[i].2.2.2.map labB).map (posI (gOf l)) = (l[i].2.2.2.map (wpos l)).map (fun x : Nat => (x : Int))
 rw [List.map_map, List.map_map]
 exact List.map_congr_left fun s hs => pos_g h (h.there _ (List.getElem_mem hi) s hs)
theorem Ed_g (h : Wr l) {i d : Nat} : Ed (gOf l) i d ↔ i < l.length ∧ d ∈ Af l i := by
 constructor
 ·rintro ⟨h1, h2⟩
  rw [g_len] at h1
  rw [D_g h h1] at h2
  exact ⟨h1, Z5e.1 h2⟩
 ·rintro ⟨h1, h2⟩
  refine ⟨by rw [g_len]; exact h1, ?_⟩
  rw [D_g h h1]
  exact Z5e.2 h2
theorem U_g (h : Wr l) {u k : Nat} (hk : k < l.length) : (u : Int) ∈ (Z1c (gOf l)).getD k [] ↔ u < l.length ∧ k ∈ Af l u := by
 rw [Z5x (by rw [g_len]; exact hk), Zi2, g_len]
 constructor
 ·rintro ⟨q, e, h1, h2⟩
  have : q = u := by omega
  subst this
  exact (Ed_g h).1 ⟨by rw [g_len]; exact h1, h2⟩
 ·intro h1
  obtain ⟨h2, h3⟩ := (Ed_g h).2 h1
  exact ⟨u, rfl, h1.1, h3⟩
theorem tree_g (h : Wr l) (ho : ∀ x ∈ l, Ok1 x) {L : List Nat} (ht : Tp l.length (Af l) L) : Right (gOf l) ∧ ∃ L', Ord (gOf l) L' ∧ L'.length = (gOf l).length ∧ Q1p.f (gOf l) = some (net (gOf l), (ints L', 0)) := by
 have hl := h.len
 have hr : Rising (labs (gOf l)) := by rw [labs_g]; exact Z9m h.ris
 have hno : ¬ Bad (gOf l) := by
  rintro (h1 | ⟨n, hn, h1⟩ | h1 | ⟨n, hn, s, hs, h1⟩)
  ·rw [g_len] at h1; omega
  ·obtain ⟨x, hx, rfl⟩ := g_mem hn
   exact h1 (chk_g h hx (ho x hx))
  ·exact h1 hr
  ·obtain ⟨x, hx, rfl⟩ := g_mem hn
   obtain ⟨t, ht, rfl⟩ := List.mem_map.1 hs
   rw [pos_g h (h.there x hx t ht)] at h1
   omega
 rcases Zio (sz_g ho) with ⟨_, h1⟩ | ⟨⟨h1, h2⟩, _⟩
 ·exact absurd h1 hno
 ·refine ⟨h1, ?_⟩
  rcases Zin h1 with ⟨R, r1, r2, _⟩ | ⟨L', r1, r2, r3⟩
  ·exfalso
   have key : ∀ (p : Nat) (hp : p < L.length), L[p] ∉ R := by
    intro p
    induction p using Nat.strongRecOn with
    | _ p ih =>
     intro hp hm
     obtain ⟨y, hy, he⟩ := r2 _ hm
     have hd := ht.dep p hp y ((Ed_g h).1 he).2
     obtain ⟨r, hr, hre⟩ := List.getElem_of_mem hd
     have hrp : r < p := by have := hr; simp at this; omega
     rw [List.getElem_take] at hre
     exact ih r hrp (by omega) (by rw [hre]; exact hy)
   obtain ⟨x, hx⟩ := List.exists_mem_of_ne_nil R r1
   obtain ⟨y, hy, he⟩ := r2 x hx
   obtain ⟨p, hp, hpe⟩ := List.getElem_of_mem (ht.all x ((Ed_g h).1 he).1)
   exact key p hp (by rw [hpe]; exact hx)
  ·refine ⟨L', r1, r2, ?_⟩
   unfold Q1p.f
   rw [h2]
   simp only [ob_s, Z5q, Z2, if_true]
   rw [Zf2 r3]
   rfl
theorem wt_g {i : Nat} (hi : i < l.length) : wt (gOf l) i = wsz l i := by
 rw [Zfj (by rw [g_len]; exact hi), Zj4 hi, Z9e hi]; rfl
theorem fi_g (h : Wr l) {s : List Int} (hs : Sum (gOf l) (Z1c (gOf l)) s) : Fi l.length (Af l) (wsz l) s where
 len := by rw [hs.len, g_len]
 up := fun u k hu hk hd => by
  have := hs.up k u (by rw [g_len]; exact hk) ((U_g h hk).2 ⟨hu, hd⟩)
  rwa [wt_g hk] at this
 low := fun k hk => by
  have := hs.low k (by rw [g_len]; exact hk)
  rwa [wt_g hk] at this
 got := fun k hk => by
  rcases hs.got k (by rw [g_len]; exact hk) with h1 | ⟨y, h1, h2⟩
  ·rw [wt_g hk] at h1; exact .inl h1
  ·rw [wt_g hk] at h2
   obtain ⟨h3, h4⟩ := (U_g h hk).1 h1
   exact .inr ⟨y, h3, h4, h2⟩
end Go.Proofs.YtcphmeggalaplaaDoor
set_option linter.unusedVariables false
set_option linter.unusedSimpArgs false
namespace Go.Proofs.YtcphmeggalaplaaDoor
open Go Go.Proofs.YtcphmeggalaplaaDoor.Eng
theorem Zjv {β : Type} {c : Prop} [h : Decidable c] {a : Option β} : ck c a = if c then a else none := by
 unfold ck
 by_cases hc : c
 ·rw [if_pos hc, if_pos hc]
 ·rw [if_neg hc, if_neg hc]
instance (x : Int) : Decidable (InR x) := by unfold InR; exact inferInstance
def digS (x : Int × (Int × List UInt8)) : Option ((Int × (Int × List UInt8)) ⊕ List UInt8) :=
 if x.2.1 < 16 then
  (if InR (15 - x.2.1) then
   (let y15 : Int := IntKind.u64.wrap ((BitVec.toNat (BitVec.ofInt (IntKind.bits .u64) x.1 &&& BitVec.ofInt (IntKind.bits .u64) (15 : Int)) : Nat) : Int)
    if 0 ≤ y15 ∧ y15 < ((ByteArray.size Q1j : Nat) : Int) then
    (if 0 ≤ ((15 : Int) - x.2.1) ∧ ((15 : Int) - x.2.1) < ((List.length x.2.2 : Nat) : Int) then
     (if (Int.toNat ((15 : Int) - x.2.1)) < List.length x.2.2 then
      (if InR (x.2.1 + 1) then some (.inl (Int.fdiv x.1 (2 ^ min (Int.toNat (4 : Int)) (IntKind.bits .u64)), x.2.1 + 1, List.set x.2.2 (Int.toNat ((15 : Int) - x.2.1)) (bt Q1j y15))) else none) else none) else none) else none) else none)
 else some (.inr x.2.2)
theorem digS_eq : (fun x : Int × (Int × List UInt8) => Ql.s1 16 x.1 x.2.1 x.2.2) = digS := by
 funext x
 simp only [Ql.s1, Z2, Zjv]
 rfl
def dig0 (x : Int × Int) : Option ((Int × Int) ⊕ Int) :=
 if x.2 < 1 then
  (if 0 ≤ x.2 ∧ x.2 < (([97] : List UInt8).length : Int) then
   (if InR (x.2 + 1) then some (.inl (IntKind.u64.wrap (IntKind.u64.wrap ((BitVec.toNat (BitVec.ofInt (IntKind.bits .u64) x.1 ^^^ BitVec.ofInt (IntKind.bits .u64) (IntKind.u64.wrap ((UInt8.toNat (rd (0 : UInt8) ([97] : List UInt8) x.2) : Nat) : Int))) : Nat) : Int) * 1099511628211), x.2 + 1)) else none) else none)
 else some (.inr x.1)
theorem dig0_eq : (fun x : Int × Int => Ql.s0 [97] 1 x.1 x.2) = dig0 := by
 funext x
 simp only [Ql.s0, Z2, Zjv]
 rfl
theorem lives_eq : Q20.f = some true := by
 have h0 : Ql.l0 [97] 1 14695981039346656037 0 = some 12638187200555641996 := by
  unfold Ql.l0
  rw [dig0_eq]
  exact Z5f (n := 2) (show Z3o dig0 2 _ = _ from by kernel_rfl)
 have h1 : Ql.l1 16 12638187200555641996 0 (List.replicate 16 0) = some [97, 102, 54, 51, 100, 99, 52, 99, 56, 54, 48, 49, 101, 99, 56, 99] := by
  unfold Ql.l1
  rw [digS_eq]
  exact Z5f (n := 17) (show Z3o digS 17 _ = _ from by kernel_rfl)
 have h2 : Ql.f [97] = some (bstr [97, 102, 54, 51, 100, 99, 52, 99, 56, 54, 48, 49, 101, 99, 56, 99]) := by
  unfold Ql.f
  show ob (Ql.l0 [97] 1 14695981039346656037 0) _ = _
  rw [h0, ob_s, Z0 (by decide)]
  show ob (Ql.l1 16 12638187200555641996 0 (List.replicate 16 0)) _ = _
  rw [h1, ob_s]
 unfold Q20.f
 rw [Z0 (by decide)]
 show ob (Ql.f [97]) _ = _
 rw [h2, ob_s]
 have : bstr [97, 102, 54, 51, 100, 99, 52, 99, 56, 54, 48, 49, 101, 99, 56, 99] = Q22 := by kernel_rfl
 rw [this]
 simp
end Go.Proofs.YtcphmeggalaplaaDoor
set_option linter.unusedVariables false
set_option linter.unusedSimpArgs false
namespace Go.Proofs.YtcphmeggalaplaaDoor
open Go Go.Lib Go.Proofs.YtcphmeggalaplaaDoor Go.Proofs.YtcphmeggalaplaaDoor.Eng
variable {l : List Wk}
theorem Zfe (a : List Int) (ha : a.length ≤ 1000000) : Qg.f a a = some true := by
 have go : ∀ (n k : Nat), a.length - k = n → Qg.l0 a a (a.length : Int) (k : Int) = some (.inr ()) := by
  intro n
  induction n with
  | zero =>
   intro k hn
   refine Z1 ?_
   simp only [Qg.s0, Z2]
   rw [if_neg (by omega)]
  | succ n ih =>
   intro k hn
   refine (Z4 ?_).trans (ih (k + 1) (by omega))
   simp only [Qg.s0, Z2, decide_true, Bool.not_true, cb_f]
   rw [if_pos (by omega), Z0 (by omega), Z0 (by omega), Ze (by omega) (by omega)]
   rfl
 have h := go _ 0 rfl
 rw [show ((0 : Nat) : Int) = 0 from rfl] at h
 unfold Qg.f
 simp only [decide_true, Bool.not_true, cb_f, h, ob_s, Z17]
theorem Zjb (ha : ∀ x ∈ l, x.2.2.2.length ≤ 200) (hw : ∀ x ∈ l, Ok1 x) {i : Nat} (hi : i < l.length) (o : List Nd) (a b : ByteArray) (w : Int) (p q : List ByteArray) : ∀ (n k : Nat), l[i].2.2.2.length - k = n → k ≤ l[i].2.2.2.length → ∀ d : List ByteArray, d.length ≤ k →
  Q7.l1 l (i : Int) (k : Int) o a b w d p q = some (o, a, b, w, d ++ (l[i].2.2.2.drop k).map labB, p, q) := by
 have hm : l[i] ∈ l := List.getElem_mem hi
 have hl := ha _ hm
 intro n
 induction n with
 | zero =>
  intro k hn hk d hd
  have e : k = l[i].2.2.2.length := by omega
  subst e
  refine Z1 ?_
  simp only [Q7.s1, Z2, Zg hi]
  rw [Z0 (by omega), if_neg (by omega), List.drop_length]
  simp
 | succ n ih =>
  intro k hn hk d hd
  have hlt : k < l[i].2.2.2.length := by omega
  have hz := (Z5w ((hw _ hm).aft _ (List.getElem_mem hlt))).1
  have hz3 : Q2a.size = 3 := rfl
  have nx := ih (k + 1) (by omega) (by omega) (d ++ [labB l[i].2.2.2[k]]) (by simp; omega)
  rw [List.drop_eq_getElem_cons hlt]
  refine (Z4 ?_).trans (nx.trans ?_)
  ·simp only [Q7.s1, Z2, Zg hi, Zg hlt]
   rw [Z0 (by omega), if_pos (by omega), Z0 (by omega), Z0 (by omega), Z0 (by rw [hz3]; omega), Z0 (by simp only [List.length_singleton]; omega), Ze (by omega) (by omega)]
   rfl
  ·rw [List.map_cons, List.append_assoc]; rfl
theorem Zgh (hl : l.length ≤ 200) (ha : ∀ x ∈ l, x.2.2.2.length ≤ 200) (hw : ∀ x ∈ l, Ok1 x) : ∀ (n k : Nat), l.length - k = n → k ≤ l.length → ∀ o : List Nd, o.length ≤ k →
  Q7.l0 l (k : Int) o = some (o ++ gOf (l.drop k)) := by
 intro n
 induction n with
 | zero =>
  intro k hn hk o ho
  have e : k = l.length := by omega
  subst e
  refine Z1 ?_
  simp only [Q7.s0, Z2]
  rw [if_neg (by omega), List.drop_length]
  simp [gOf]
 | succ n ih =>
  intro k hn hk o ho
  have hlt : k < l.length := by omega
  have hm : l[k] ∈ l := List.getElem_mem hlt
  have hz := (Z5w (hw _ hm).id).1
  have hz3 : Q2a.size = 3 := rfl
  have h1 := Zjb ha hw hlt o (labB l[k].1) Q1b l[k].2.2.1 [] [] _ 0 rfl (Nat.zero_le _) [] (Nat.zero_le _)
  rw [show ((0 : Nat) : Int) = 0 from rfl] at h1
  have nx := ih (k + 1) (by omega) (by omega) (o ++ [gN l[k]]) (by simp; omega)
  rw [List.drop_eq_getElem_cons hlt]
  refine (Z4 ?_).trans (nx.trans ?_)
  ·simp only [Q7.s0, Z2, Zg hlt]
   rw [if_pos (by omega), Z0 (by omega), Z0 (by rw [hz3]; omega), Z0 (by omega)]
   simp only [h1, ob_s]
   rw [Z0 (by simp only [List.length_singleton]; omega), Ze (by omega) (by omega)]
   rfl
  ·rw [List.append_assoc]; rfl
theorem law_CA (l : List Wk) (ha : ∀ x ∈ l, x.2.2.2.length ≤ 9000000000000) : Q7.f l = some true := by
 unfold Q7.f Q1k.f
 rcases Zaw ha with ⟨f, h0, h1⟩ | ⟨h1, hw, ho, L, d, h2, h3, h4⟩
 ·simp only [h1, ob_s, decide_eq_false h0, Bool.not_false, cb_t, List.length_nil, lives_eq]
  rfl
 ·have hl := hw.len
  have hW : ∀ i, i < l.length → 0 ≤ wsz l i ∧ wsz l i ≤ 1000000 := fun i hi => by
   have := (ho _ (List.getElem_mem hi)).size
   rw [Z9e hi]; omega
  obtain ⟨ht, o, h5, h6⟩ := Zds hw h2 h3 h4 hW
  obtain ⟨hr, L', g1, g2, g3⟩ := tree_g hw ho ht
  obtain ⟨s, g4, g5⟩ := Zjl hr g1 g2 g3
  have e : o = s := h6.uniq ht (fi_g hw g4)
  have hn := Zgh hl (fun x hx => Zhz hw hx (ho x hx)) ho _ 0 rfl (Nat.zero_le _) [] (Nat.zero_le _)
  rw [show ((0 : Nat) : Int) = 0 from rfl, List.nil_append, List.drop_zero] at hn
  have hol := h6.len
  simp only [h1, ob_s, decide_true, Bool.not_true, cb_f, h5, hn, g5, cb_t]
  subst e
  rw [Zfe o (by omega)]
  simp only [ob_s, cb_t, lives_eq]
end Go.Proofs.YtcphmeggalaplaaDoor
set_option linter.unusedVariables false
set_option linter.unusedSimpArgs false
namespace Go.Proofs.YtcphmeggalaplaaDoor
open Go Go.Lib Go.Proofs.YtcphmeggalaplaaDoor Go.Proofs.YtcphmeggalaplaaDoor.Eng
theorem law_CA' (x : List Wk) (hx : InA T 6 [22] [.slice (.pair .str (.pair (.slice (.pair .str .str)) (.pair (.int .i64) (.slice .str))))] x) : Q7.f x = some true := by
 refine law_CA x fun n hn => ?_
 have h := hx.2 n hn
 have g : List.length n.2.2.2 * 16 ≤ reachBytes := h.2.2.2.1
 have hr' : reachBytes ≤ 140737488355328 := by decide
 omega
end Go.Proofs.YtcphmeggalaplaaDoor
