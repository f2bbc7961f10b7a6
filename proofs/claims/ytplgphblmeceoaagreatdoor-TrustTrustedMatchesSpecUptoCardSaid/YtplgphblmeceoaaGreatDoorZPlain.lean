/-
  Plain laws over the printed functions: labels, words, writers, claimed results, digests, logs. No condition.
-/
import Derived.Test.YtplgphblmeceoaaGreatDoorZFun
import Derived.Sort.Walk0
import Derived.Laws.RangeAny
import Derived.Lib.IndexLaws
import Derived.Lib.ItoaLen
import Derived.Test.YtplgphblmeceoaaGreatDoorZUpA
import Derived.KernelRfl
set_option linter.unusedVariables false
set_option linter.unusedSimpArgs false
namespace Go.Proofs.YtplgphblmeceoaaGreatDoor
open Go Go.Proofs.YtplgphblmeceoaaGreatDoor.Eng
def BIG : Nat := 140737488355328
theorem Z8 (s : ByteArray) : s.size = s.data.toList.length := by rw [ByteArray.size]; simp
theorem Z8f {s : ByteArray} {k : Nat} (h : k < s.data.toList.length) : bt s (k : Int) = s.data.toList[k] := by
 have h' : k < s.size := by rw [Z8]; exact h
 unfold bt
 simp only [Int.toNat_natCast]
 rw [getElem?_pos s k h', Option.getD_some]
 rfl
theorem Z7c {s : ByteArray} (hs : s.size ≤ BIG) (p : UInt8 → Bool) (f : Int → Option (Int ⊕ (Bool ⊕ Unit))) (hend : ∀ k : Nat, s.data.toList.length ≤ k → f k = some (.inr (.inr ())))
  (hno : ∀ k : Nat, ∀ h : k < s.data.toList.length, p s.data.toList[k] = false → f k = some (.inr (.inl false))) (hyes : ∀ k : Nat, ∀ h : k < s.data.toList.length, p s.data.toList[k] = true → f k = some (.inl ((k : Int) + 1))) :
  ∀ (n k : Nat), s.data.toList.length - k = n → Zj f (k : Int) = some (if (s.data.toList.drop k).all p then .inr () else .inl false) := by
 intro n
 induction n with
 | zero =>
  intro k hn
  rw [List.drop_eq_nil_of_le (by omega)]
  exact Z2 (hend k (by omega))
 | succ n ih =>
  intro k hn
  have hlt : k < s.data.toList.length := by omega
  rw [List.drop_eq_getElem_cons hlt, List.all_cons]
  cases hp : p s.data.toList[k] with
  | false => exact Z2 (hno k hlt hp)
  | true =>
   rw [Bool.true_and]
   exact (Z5 (hyes k hlt hp)).trans (ih (k + 1) (by omega))
def Z9s (c : UInt8) : Bool := decide (97 ≤ c.toNat ∧ c.toNat ≤ 122) || decide (65 ≤ c.toNat ∧ c.toNat ≤ 90) || decide (48 ≤ c.toNat ∧ c.toNat ≤ 57) || decide (0 ≤ Lib.indexByte [46, 95, 45, 43] c)
theorem Zc1 (c : UInt8) : Q2q.f c = some (Z9s c) := by
 have hi : Qo.f Q26 c = some (Lib.indexByte [46, 95, 45, 43] c) := rfl
 unfold Q2q.f Z9s
 simp only [Z3, hi, ob_s]
 by_cases h1 : (97 : Int) ≤ ((UInt8.toNat c : Nat) : Int) <;> by_cases h2 : ((UInt8.toNat c : Nat) : Int) ≤ 122 <;> by_cases h3 : (65 : Int) ≤ ((UInt8.toNat c : Nat) : Int) <;> by_cases h4 : ((UInt8.toNat c : Nat) : Int) ≤ 90 <;>
  by_cases h5 : (48 : Int) ≤ ((UInt8.toNat c : Nat) : Int) <;> by_cases h6 : ((UInt8.toNat c : Nat) : Int) ≤ 57 <;> simp only [h1, h2, h3, h4, h5, h6, if_true, if_false] <;> congr 1 <;>
  (have g1 : decide (97 ≤ c.toNat ∧ c.toNat ≤ 122) = decide ((97 : Int) ≤ ((UInt8.toNat c : Nat) : Int) ∧ ((UInt8.toNat c : Nat) : Int) ≤ 122) := decide_eq_decide.2 (by omega)
   have g2 : decide (65 ≤ c.toNat ∧ c.toNat ≤ 90) = decide ((65 : Int) ≤ ((UInt8.toNat c : Nat) : Int) ∧ ((UInt8.toNat c : Nat) : Int) ≤ 90) := decide_eq_decide.2 (by omega)
   have g3 : decide (48 ≤ c.toNat ∧ c.toNat ≤ 57) = decide ((48 : Int) ≤ ((UInt8.toNat c : Nat) : Int) ∧ ((UInt8.toNat c : Nat) : Int) ≤ 57) := decide_eq_decide.2 (by omega)
   rw [g1, g2, g3]; simp [h1, h2, h3, h4, h5, h6])
def Z3k (s : ByteArray) : Bool := s.data.toList.all Z9s && (!decide (s = bs_) && (!decide (s = Q3a) && !decide (s = Q38)))
theorem Zc0 {s : ByteArray} (hs : s.size ≤ BIG) : Q1j.f s = some (Z3k s) := by
 have hb : BIG = 140737488355328 := rfl
 have hl := Z8 s
 have h := Z7c hs Z9s (fun x => Q1j.s0 s (s.size : Int) x) (fun k hk => by
  simp only [Q1j.s0, Z3]; rw [if_neg (by omega)]) (fun k hk hp => by
  simp only [Q1j.s0, Z3, Z8f hk, Zc1, hp, ob_s]; rw [if_pos (by omega), Z1 (by omega)]; rfl) (fun k hk hp => by
  simp only [Q1j.s0, Z3, Z8f hk, Zc1, hp, ob_s]; rw [if_pos (by omega), Z1 (by omega), Zk (by omega) (by omega)]; rfl) s.data.toList.length 0 (by omega)
 rw [List.drop_zero] at h
 unfold Q1j.f Z3k
 show ob (Zj (fun x => Q1j.s0 s (s.size : Int) x) ((0 : Nat) : Int)) _ = _
 rw [h]
 cases s.data.toList.all Z9s
 ·rfl
 ·simp only [if_true, ob_s, Z2x, Bool.true_and, Z1i, Z3]
  by_cases e1 : s = bs_
  ·rw [if_pos e1, decide_eq_true e1]; rfl
  ·rw [if_neg e1, decide_eq_false e1]
   by_cases e2 : s = Q3a
   ·rw [if_pos e2, decide_eq_true e2]; rfl
   ·rw [if_neg e2, decide_eq_false e2]; rfl
theorem indexByte_lt : ∀ (l : List UInt8) (c : UInt8), -1 ≤ Lib.indexByte l c ∧ Lib.indexByte l c < l.length
 | [], c => by simp [Lib.indexByte]
 | b :: l, c => by
  have h := indexByte_lt l c
  unfold Lib.indexByte
  split
  ·simp only [List.length_cons]; omega
  ·split
   ·simp only [List.length_cons]; omega
   ·rename_i h1
    have : ¬ Lib.indexByte l c = -1 := by simpa using h1
    simp only [List.length_cons]; omega
theorem Zgz (s : ByteArray) : Q2j.f s Q35 = some (Lib.indexByte s.data.toList 47) := by
 show ob (ck _ _) _ = _
 rw [Z1 (by rfl)]; rfl
theorem index58 (s : ByteArray) : Q1w.f s Q33 = some (Lib.indexByte s.data.toList 58) := by
 show ck _ _ = _
 rw [Z1 (by rfl)]; rfl
theorem Z2s (s : ByteArray) (a b : Nat) : (s.extract a b).size = min b s.size - a := by simp [ByteArray.size_extract]
theorem Zfv {n : Nat} (hn : n ≤ 1000000000000) : ∀ (m i : Nat) (s : ByteArray) (a : List ByteArray), n - i = m → i ≤ n → a.length = n + 1 → s.size ≤ BIG →
  ∃ (s' : ByteArray) (i' : Nat) (a' : List ByteArray), Qp.l0 Q35 0 (n : Int) s (i : Int) a = some (s', (i' : Int), a') ∧ i' ≤ n ∧ a'.length = n + 1 ∧ (∀ x ∈ a', x.size ≤ s.size ∨ x ∈ a) ∧ s'.size ≤ s.size := by
 intro m
 have hb : BIG = 140737488355328 := rfl
 induction m with
 | zero =>
  intro i s a hm hi ha hs
  refine ⟨s, i, a, Z2 ?_, hi, ha, fun x hx => .inr hx, Nat.le_refl _⟩
  simp only [Qp.s0, Z3]
  rw [if_neg (by omega)]
 | succ m ih =>
  intro i s a hm hi ha hs
  have hx := indexByte_lt s.data.toList 47
  have hl := Z8 s
  by_cases hneg : Lib.indexByte s.data.toList 47 < 0
  ·refine ⟨s, i, a, Z2 ?_, hi, ha, fun x hx => .inr hx, Nat.le_refl _⟩
   simp only [Qp.s0, Z3, Zgz, ob_s]
   rw [if_pos (by omega), if_pos hneg]
  ·have hz1 := Z2s s 0 (Int.toNat (Lib.indexByte s.data.toList 47 + 0))
   have hz2 := Z2s s (Int.toNat (Lib.indexByte s.data.toList 47 + ((Q35.size : Nat) : Int))) s.size
   have h1 : Q35.size = 1 := rfl
   obtain ⟨s', i', a', h2, h3, h4, h5, h6⟩ := ih (i + 1) (s.extract (Int.toNat (Lib.indexByte s.data.toList 47 + ((Q35.size : Nat) : Int))) s.size) (a.set i (s.extract 0 (Int.toNat (Lib.indexByte s.data.toList 47 + 0)))) (by omega) (by omega) (by simpa using ha) (by rw [hz2]; omega)
   refine ⟨s', i', a', (Z5 ?_).trans h2, h3, h4, fun x hx => ?_, by omega⟩
   ·simp only [Qp.s0, Z3, Zgz, ob_s]
    rw [if_pos (by omega), if_neg hneg, Zk (by omega) (by omega), Z1 (by omega), Z1 (by omega), Z1 (by rw [Int.toNat_natCast]; omega), Zk (by rw [h1]; omega) (by rw [h1]; omega), Z1 (by rw [h1]; omega), Zk (by omega) (by omega)]
    rfl
   ·rcases h5 x hx with h | h
    ·left; omega
    ·rcases List.mem_or_eq_of_mem_set h with h | h
     ·exact .inr h
     ·left; rw [h, hz1]; omega
theorem Zcb (l : List UInt8) (c : UInt8) : (Lib.countByte l c : Nat) ≤ l.length := List.count_le_length
theorem Zeo {s : ByteArray} (hs : s.size ≤ 100000000000) : ∃ l, Q1v.f s Q35 = some l ∧ l.length ≤ 100000000002 ∧ ∀ x ∈ l, x.size ≤ s.size := by
 have hb : BIG = 140737488355328 := rfl
 have hl := Z8 s
 have hc := Zcb s.data.toList 47
 have hcnt : Q31.f s Q35 = some ((Lib.countByte s.data.toList 47 : Nat) : Int) := by
  show ck _ _ = _
  rw [Z1 (by rfl)]; rfl
 obtain ⟨s', i', a', h2, h3, h4, h5, h6⟩ := Zfv (n := Lib.countByte s.data.toList 47) (by omega) _ 0 s (List.replicate (Lib.countByte s.data.toList 47 + 1) ByteArray.empty) rfl (Nat.zero_le _) (by simp) (by omega)
 unfold Q1v.f Qp.f
 have e1 : ¬ (Q35 = bs_) := by decide
 have hy : min (((Lib.countByte s.data.toList 47 : Nat) : Int) + 1) (((s.size : Nat) : Int) + 1) = ((Lib.countByte s.data.toList 47 + 1 : Nat) : Int) := by omega
 simp only [Z3, hcnt, ob_s, hy]
 rw [if_neg (by decide), if_neg e1, if_pos (by decide), Zk (by omega) (by omega), Zk (by omega) (by omega), Z1 (by omega), Zk (by omega) (by omega)]
 rw [show ((Lib.countByte s.data.toList 47 + 1 : Nat) : Int) - 1 = ((Lib.countByte s.data.toList 47 : Nat) : Int) by omega, Int.toNat_natCast]
 rw [show ((0 : Nat) : Int) = 0 from rfl] at h2
 rw [h2, ob_s]
 simp only
 rw [Z1 (by omega), Z1 (by rw [Int.toNat_natCast]; omega), Zk (by omega) (by omega), Z1 (by simp only [List.length_set]; omega), ob_s]
 refine ⟨_, rfl, by simp only [List.length_take, List.length_drop, List.length_set]; omega, fun x hx => ?_⟩
 have hx1 := List.mem_of_mem_drop (List.mem_of_mem_take hx)
 rcases List.mem_or_eq_of_mem_set hx1 with h | h
 ·rcases h5 x h with h | h
  ·exact h
  ·have := List.eq_of_mem_replicate h
   rw [this]; exact Nat.zero_le _
 ·rw [h]; exact h6
noncomputable def Z13 (s : ByteArray) : List ByteArray := (Q1v.f s Q35).getD []
theorem Zdt {s : ByteArray} (hs : s.size ≤ 100000000000) : Q1v.f s Q35 = some (Z13 s) ∧ (Z13 s).length ≤ 100000000002 ∧ ∀ x ∈ Z13 s, x.size ≤ s.size := by
 obtain ⟨l, h1, h2, h3⟩ := Zeo hs
 have e : Z13 s = l := by unfold Z13; rw [h1]; rfl
 rw [e]
 exact ⟨h1, h2, h3⟩
theorem Ze0 {α : Type} {l : List α} (p : α → Bool) (f : Int → Option (Int ⊕ (Bool ⊕ Unit))) (hend : ∀ k : Nat, l.length ≤ k → f k = some (.inr (.inr ())))
  (hno : ∀ k : Nat, ∀ h : k < l.length, p l[k] = false → f k = some (.inr (.inl false))) (hyes : ∀ k : Nat, ∀ h : k < l.length, p l[k] = true → f k = some (.inl ((k : Int) + 1))) :
  ∀ (n k : Nat), l.length - k = n → Zj f (k : Int) = some (if (l.drop k).all p then .inr () else .inl false) := by
 intro n
 induction n with
 | zero =>
  intro k hn
  rw [List.drop_eq_nil_of_le (by omega)]
  exact Z2 (hend k (by omega))
 | succ n ih =>
  intro k hn
  have hlt : k < l.length := by omega
  rw [List.drop_eq_getElem_cons hlt, List.all_cons]
  cases hp : p l[k] with
  | false => exact Z2 (hno k hlt hp)
  | true =>
   rw [Bool.true_and]
   exact (Z5 (hyes k hlt hp)).trans (ih (k + 1) (by omega))
noncomputable def Z1j (s : ByteArray) : Bool := if 1 ≤ s.size ∧ s.size ≤ 200 then (Z13 s).all Z3k else false
theorem Zgw (s : ByteArray) : Q1a.f s = some (Z1j s) := by
 have hb : BIG = 140737488355328 := rfl
 unfold Q1a.f Z1j
 simp only [Z3]
 by_cases h1 : ((s.size : Nat) : Int) < 1
 ·rw [if_pos h1, if_neg (by omega)]
 ·by_cases h2 : (200 : Int) < ((s.size : Nat) : Int)
  ·rw [if_neg h1, if_pos h2, if_neg (by omega)]
  ·obtain ⟨g1, g2, g3⟩ := Zdt (s := s) (by omega)
   have h := Ze0 (l := Z13 s) Z3k (fun x => Q1a.s0 (Z13 s) ((Z13 s).length : Int) x) (fun k hk => by
    simp only [Q1a.s0, Z3]; rw [if_neg (by omega)]) (fun k hk hp => by
    have hz := g3 _ (List.getElem_mem hk)
    simp only [Q1a.s0, Z3, Zm hk, Zc0 (s := (Z13 s)[k]) (by omega), hp, ob_s]; rw [if_pos (by omega), Z1 (by omega)]; rfl) (fun k hk hp => by
    have hz := g3 _ (List.getElem_mem hk)
    simp only [Q1a.s0, Z3, Zm hk, Zc0 (s := (Z13 s)[k]) (by omega), hp, ob_s]; rw [if_pos (by omega), Z1 (by omega), Zk (by omega) (by omega)]; rfl) (Z13 s).length 0 (by omega)
   rw [List.drop_zero] at h
   rw [if_neg h1, if_neg h2, if_pos (by omega), g1, ob_s]
   show ob (Zj (fun x => Q1a.s0 (Z13 s) ((Z13 s).length : Int) x) ((0 : Nat) : Int)) _ = _
   rw [h]
   cases (Z13 s).all Z3k <;> rfl
def hasP (s p : ByteArray) : Bool := decide (p.size ≤ s.size) && decide (s.extract 0 p.size = p)
theorem Z6o (s p : ByteArray) : Qn.f s p = some (hasP s p) := by
 unfold Qn.f hasP
 simp only [Z3, Int.toNat_natCast]
 by_cases h : p.size ≤ s.size
 ·rw [if_pos (by omega), Z1 (by omega), decide_eq_true h, Bool.true_and]
 ·rw [if_neg (by omega), decide_eq_false h, Bool.false_and]
def cutP (s p : ByteArray) : ByteArray × Bool := if hasP s p then (s.extract p.size s.size, true) else (s, false)
theorem Z6r (s p : ByteArray) : Q1h.f s p = some (cutP s p) := by
 unfold Q1h.f Q12.f cutP
 simp only [Z6o, ob_s, Int.toNat_natCast]
 cases h : hasP s p with
 | false => rfl
 | true =>
  have h' : p.size ≤ s.size := by
   unfold hasP at h
   rw [Bool.and_eq_true] at h
   exact of_decide_eq_true h.1
  simp only [Bool.not_true, cb_f]
  rw [Z1 (by omega)]
  rfl
def Z23 (s : ByteArray) : ByteArray × (ByteArray × Bool) :=
 if 0 ≤ Lib.indexByte s.data.toList 58 then (s.extract 0 (Lib.indexByte s.data.toList 58).toNat, s.extract ((Lib.indexByte s.data.toList 58).toNat + 1) s.size, true) else (s, bs_, false)
theorem Zkc {s : ByteArray} (hs : s.size ≤ BIG) : Q2d.f s Q33 = some (Z23 s) := by
 have hb : BIG = 140737488355328 := rfl
 have hx := indexByte_lt s.data.toList 58
 have hl := Z8 s
 have h1 : Q33.size = 1 := rfl
 unfold Q2d.f Q1k.f Z23
 simp only [index58, ob_s, Z3, h1]
 by_cases h : 0 ≤ Lib.indexByte s.data.toList 58
 ·rw [if_pos h, if_pos h, Z1 (by omega), Zk (by omega) (by omega), Z1 (by omega), ob_s]
  rw [show (Lib.indexByte s.data.toList 58 + ((1 : Nat) : Int)).toNat = (Lib.indexByte s.data.toList 58).toNat + 1 by omega]
 ·rw [if_neg h, if_neg h]; rfl
theorem Zbx {s : ByteArray} (hs : s.size ≤ BIG) : ∃ r, Q2i.f s = some r ∧ r.size ≤ s.size := by
 have hb : BIG = 140737488355328 := rfl
 have hl := Z8 s
 have go : ∀ (m : Nat) (k : Int), (k + 1).toNat = m → -1 ≤ k → k < s.size → ∃ r, Q2.l0 s (UInt8.ofInt 47) k = some r ∧ ∀ i, r = .inl i → 0 ≤ i ∧ i < s.size := by
  intro m
  induction m with
  | zero =>
   intro k hm h1 h2
   refine ⟨.inr (), Z2 ?_, fun i h => by cases h⟩
   simp only [Q2.s0, Z3]
   rw [if_neg (by omega)]
  | succ m ih =>
   intro k hm h1 h2
   by_cases he : ((UInt8.toNat (bt s k) : Nat) : Int) = ((UInt8.toNat (UInt8.ofInt 47) : Nat) : Int)
   ·refine ⟨.inl k, Z2 ?_, fun i h => by cases h; omega⟩
    simp only [Q2.s0, Z3]
    rw [if_pos (by omega), Z1 (by omega), if_pos he]
   ·obtain ⟨r, h3, h4⟩ := ih (k - 1) (by omega) (by omega) (by omega)
    refine ⟨r, (Z5 ?_).trans h3, h4⟩
    simp only [Q2.s0, Z3]
    rw [if_pos (by omega), Z1 (by omega), if_neg he, Zk (by omega) (by omega)]
 obtain ⟨r, h1, h2⟩ := go _ (((s.size : Nat) : Int) - 1) rfl (by omega) (by omega)
 unfold Q2i.f Q1g.f Q2.f
 simp only [h1, ob_s]
 rw [Zk (by omega) (by omega)]
 cases r with
 | inl i =>
  have := h2 i rfl
  simp only [Z8c, ob_s]
  rw [Zk (by omega) (by omega), Z1 (by omega)]
  exact ⟨_, rfl, by rw [Z2s]; omega⟩
 | inr u =>
  simp only [Z2x, ob_s]
  rw [Zk (by omega) (by omega), Z1 (by omega)]
  exact ⟨_, rfl, by rw [Z2s]; omega⟩
noncomputable def labF (a : ByteArray × ByteArray) : Int := if (a.1 = bs_ ∨ Z1j a.1 = true) ∧ Z1j a.2 = true then 0 else 3
theorem Z3p (a : ByteArray × ByteArray) : Q1b.f a = some (labF a) := by
 unfold Q1b.f labF
 simp only [Zgw, ob_s, Z1i, Z3]
 by_cases e : a.1 = bs_
 ·simp only [e, if_true, true_or, true_and]
  cases Z1j a.2 <;> rfl
 ·simp only [e, if_false, false_or]
  cases Z1j a.1 <;> cases Z1j a.2 <;> rfl
end Go.Proofs.YtplgphblmeceoaaGreatDoor
set_option linter.unusedVariables false
set_option linter.unusedSimpArgs false
namespace Go.Proofs.YtplgphblmeceoaaGreatDoor
open Go Go.Proofs.YtplgphblmeceoaaGreatDoor.Eng
def cmpS (a b : ByteArray) : Int := Lib.compareBytes a.data.toList b.data.toList
theorem cmpL_less : ∀ a b : List UInt8, (Lib.compareBytes a b < 0 ↔ Op.bytesLess a b = true)
 | [], [] => by simp [Lib.compareBytes, Op.bytesLess]
 | [], _ :: _ => by simp [Lib.compareBytes, Op.bytesLess]
 | _ :: _, [] => by simp [Lib.compareBytes, Op.bytesLess]
 | x :: a, y :: b => by
  have ih := cmpL_less a b
  unfold Lib.compareBytes Op.bytesLess
  by_cases h1 : x < y
  ·simp [h1]
  ·by_cases h2 : y < x
   ·have h3 : ¬ x = y := fun e => by subst e; exact absurd h2 (UInt8.lt_irrefl x)
    simp [h1, h2, h3]
   ·have h3 : x = y := UInt8.le_antisymm (UInt8.not_lt.1 h2) (UInt8.not_lt.1 h1)
    subst h3
    simp only [h1, if_false, decide_false, Bool.false_or, beq_self_eq_true, Bool.true_and]
    exact ih
theorem cmpL_eq0 : ∀ a b : List UInt8, (Lib.compareBytes a b = 0 ↔ a = b)
 | [], [] => by simp [Lib.compareBytes]
 | [], _ :: _ => by simp [Lib.compareBytes]
 | _ :: _, [] => by simp [Lib.compareBytes]
 | x :: a, y :: b => by
  have ih := cmpL_eq0 a b
  unfold Lib.compareBytes
  by_cases h1 : x < y
  ·have h3 : ¬ x = y := fun e => by subst e; exact absurd h1 (UInt8.lt_irrefl x)
   simp [h1, h3]
  ·by_cases h2 : y < x
   ·have h3 : ¬ x = y := fun e => by subst e; exact absurd h2 (UInt8.lt_irrefl x)
    simp [h1, h2, h3]
   ·have h3 : x = y := UInt8.le_antisymm (UInt8.not_lt.1 h2) (UInt8.not_lt.1 h1)
    subst h3
    simp only [h1, if_false, List.cons.injEq, true_and]
    exact ih
theorem cmpL_swap : ∀ a b : List UInt8, Lib.compareBytes b a = - Lib.compareBytes a b
 | [], [] => rfl
 | [], _ :: _ => rfl
 | _ :: _, [] => rfl
 | x :: a, y :: b => by
  have ih := cmpL_swap a b
  unfold Lib.compareBytes
  by_cases h1 : x < y
  ·have h2 : ¬ y < x := UInt8.not_lt.2 (UInt8.le_of_lt h1)
   simp [h1, h2]
  ·by_cases h2 : y < x
   ·simp [h1, h2]
   ·simp only [h1, h2, if_false]; exact ih
theorem cmpL_trans : ∀ a b c : List UInt8, Lib.compareBytes a b < 0 → Lib.compareBytes b c < 0 → Lib.compareBytes a c < 0
 | [], [], c, h, _ => by simp [Lib.compareBytes] at h
 | [], _ :: _, [], _, h => by simp [Lib.compareBytes] at h
 | [], _ :: _, _ :: _, _, _ => by simp [Lib.compareBytes]
 | _ :: _, [], c, h, _ => by simp [Lib.compareBytes] at h
 | _ :: _, _ :: _, [], _, h => by simp [Lib.compareBytes] at h
 | x :: a, y :: b, z :: c, h, h' => by
  have ih := cmpL_trans a b c
  unfold Lib.compareBytes at h h' ⊢
  by_cases h1 : x < y
  ·by_cases h2 : y < z
   ·simp [UInt8.lt_trans h1 h2]
   ·by_cases h3 : z < y
    ·simp [h2, h3] at h'
    ·have e : y = z := UInt8.le_antisymm (UInt8.not_lt.1 h3) (UInt8.not_lt.1 h2)
     subst e; simp [h1]
  ·by_cases h2 : y < x
   ·simp [h1, h2] at h
   ·have e : x = y := UInt8.le_antisymm (UInt8.not_lt.1 h2) (UInt8.not_lt.1 h1)
    subst e
    by_cases h3 : x < z
    ·simp [h3]
    ·by_cases h4 : z < x
     ·simp [h3, h4] at h'
     ·simp only [h1, if_false] at h
      simp only [h3, h4, if_false] at h' ⊢
      exact ih h h'
theorem Zi1 (a b : ByteArray) : Z3v a b = true ↔ cmpS a b < 0 := by
 unfold Z3v cmpS
 rw [ByteArray.toList_eq, ByteArray.toList_eq]
 exact (cmpL_less _ _).symm
theorem Z4j (a b : ByteArray) : cmpS a b = 0 ↔ a = b := by
 unfold cmpS
 rw [cmpL_eq0]
 exact ⟨fun h => ByteArray.ext (Array.toList_inj.1 h), fun h => by rw [h]⟩
theorem Zhr (a b : ByteArray) : cmpS b a = - cmpS a b := cmpL_swap _ _
theorem Z69 {a b c : ByteArray} (h : cmpS a b < 0) (h' : cmpS b c < 0) : cmpS a c < 0 := cmpL_trans _ _ _ h h'
theorem Zgm (a b : ByteArray) : (Z3v a b || decide (a = b)) = decide (cmpS a b ≤ 0) := by
 have h1 := Zi1 a b
 have h2 := Z4j a b
 by_cases h : cmpS a b < 0
 ·rw [h1.2 h, Bool.true_or, decide_eq_true (by omega)]
 ·have hf : Z3v a b = false := by
   cases hb : Z3v a b with
   | false => rfl
   | true => exact absurd (h1.1 hb) h
  rw [hf, Bool.false_or]
  exact decide_eq_decide.2 ⟨fun e => by rw [h2.2 e]; exact Int.le_refl _, fun e => h2.1 (by omega)⟩
def Rising (l : List ByteArray) : Prop := ∀ i j : Nat, ∀ h : j < l.length, ∀ h' : i < j, cmpS (l[i]'(by omega)) l[j] < 0
theorem Zd4 {l : List ByteArray} (h : ∀ k : Nat, ∀ hk : k + 1 < l.length, cmpS (l[k]'(by omega)) l[k + 1] < 0) : Rising l := by
 intro i j
 induction j with
 | zero => intro h h'; omega
 | succ j ih =>
  intro hj hij
  rcases Nat.lt_or_ge i j with h1 | h1
  ·exact Z69 (ih (by omega) h1) (h j hj)
  ·have : i = j := by omega
   subst this
   exact h i hj
theorem Rising.inj {l : List ByteArray} (h : Rising l) {i j : Nat} (hi : i < l.length) (hj : j < l.length) (e : l[i] = l[j]) : i = j := by
 rcases Nat.lt_trichotomy i j with h1 | h1 | h1
 ·have := h i j hj h1
  rw [e] at this
  have h0 := (Z4j l[j] l[j]).2 rfl
  omega
 ·exact h1
 ·have := h j i hi h1
  rw [e] at this
  have h0 := (Z4j l[j] l[j]).2 rfl
  omega
end Go.Proofs.YtplgphblmeceoaaGreatDoor
set_option linter.unusedVariables false
set_option linter.unusedSimpArgs false
namespace Go.Proofs.YtplgphblmeceoaaGreatDoor
open Go Go.Lib Go.Proofs.YtplgphblmeceoaaGreatDoor.Eng
def plainC (c : UInt8) : Bool := decide (33 ≤ c.toNat ∧ c.toNat ≤ 126)
def Z3z (s : ByteArray) : Bool := s.data.toList.all plainC
theorem Zjd {s : ByteArray} {k : Nat} (h : k < s.size) : s[k] = s.data.toList[k]'(by rw [← Z8]; exact h) := by
 rfl
theorem Zc2 (s : ByteArray) : ∀ (f pos : Nat), s.size - pos ≤ f → decide (0 ≤ idxFuncFrom Z1p true s f pos) = !(s.data.toList.drop pos).all plainC
 | 0, pos, h => by
  have hl := Z8 s
  rw [List.drop_eq_nil_of_le (by omega)]
  rfl
 | f + 1, pos, h => by
  have hl := Z8 s
  unfold idxFuncFrom
  by_cases hp : pos < s.size
  ·rw [if_pos hp]
   have hlt : pos < s.data.toList.length := by omega
   rw [List.drop_eq_getElem_cons hlt, List.all_cons]
   have hg := Zjd hp
   by_cases ha : (s[pos]'hp).toNat < 128
   ·rw [decode_ascii s pos hp ha]
    simp only
    rw [hg]
    rw [hg] at ha
    by_cases hn : Z1p (s.data.toList[pos]).toNat = true
    ·rw [if_pos hn]
     have : plainC s.data.toList[pos] = false := by
      unfold plainC
      unfold Z1p at hn
      have := of_decide_eq_true hn
      exact decide_eq_false (by omega)
     rw [this, Bool.false_and, decide_eq_true (by omega)]; rfl
    ·rw [if_neg hn, Zc2 s f (pos + 1) (by omega)]
     have : plainC s.data.toList[pos] = true := by
      unfold plainC
      unfold Z1p at hn
      have : ¬ ((s.data.toList[pos]).toNat < 33 ∨ 126 < (s.data.toList[pos]).toNat) := fun h => hn (decide_eq_true h)
      exact decide_eq_true (by omega)
     rw [this, Bool.true_and]
   ·have hd := decode_high s pos hp (by omega)
    have hn : Z1p (Utf8.decode s pos).1 = true := decide_eq_true (by omega)
    rw [if_pos hn]
    have : plainC s.data.toList[pos] = false := by
     unfold plainC
     rw [← hg]
     exact decide_eq_false (by omega)
    rw [this, Bool.false_and, decide_eq_true (by omega)]; rfl
  ·rw [if_neg hp, List.drop_eq_nil_of_le (by omega)]
   rfl
theorem Z4f (s : ByteArray) : Q27.f s = some (Z3z s) := by
 unfold Q27.f Q2g.f
 have h := Zc2 s s.size 0 (by omega)
 rw [List.drop_zero] at h
 have h' : decide (0 ≤ idxFunc Z1p true s) = !Z3z s := h
 rw [ob_s, h', Bool.not_not]
theorem Z75 {s : ByteArray} (hs : s.size ≤ BIG) : Q1c.f s = some (Z3z s && !decide (s = bs_)) := by
 have hb : BIG = 140737488355328 := rfl
 have hl := Z8 s
 have h := Z7c hs plainC (fun x => Q1c.s0 s (s.size : Int) x) (fun k hk => by
  simp only [Q1c.s0, Z3]; rw [if_neg (by omega)]) (fun k hk hp => by
  have hp' := of_decide_eq_false hp
  simp only [Q1c.s0, Z3, Z8f hk]
  rw [if_pos (by omega), Z1 (by omega)]
  by_cases h1 : ((UInt8.toNat s.data.toList[k] : Nat) : Int) < 33
  ·rw [if_pos h1]
  ·rw [if_neg h1, Z1 (by omega), if_pos (by omega)]) (fun k hk hp => by
  have hp' := of_decide_eq_true hp
  simp only [Q1c.s0, Z3, Z8f hk]
  rw [if_pos (by omega), Z1 (by omega), if_neg (by omega), Z1 (by omega), if_neg (by omega), Zk (by omega) (by omega)]) s.data.toList.length 0 (by omega)
 rw [List.drop_zero] at h
 unfold Q1c.f
 show ob (Zj (fun x => Q1c.s0 s (s.size : Int) x) ((0 : Nat) : Int)) _ = _
 rw [h]
 unfold Z3z
 cases s.data.toList.all plainC <;> rfl
theorem Zin {s : ByteArray} : s.size = 0 ↔ s = bs_ := by
 constructor
 ·intro h
  have hl := Z8 s
  have : s.data.toList = [] := List.eq_nil_of_length_eq_zero (by omega)
  apply ByteArray.ext
  apply Array.toList_inj.1
  rw [this]; rfl
 ·rintro rfl; rfl
theorem Z81 {s : ByteArray} (hs : s.size ≤ BIG) : Q25.f s = Q24.f s := by
 unfold Q25.f Q24.f
 simp only [Z4f, Z75 hs, ob_s, Z3]
 by_cases h0 : s = bs_
 ·subst h0; rfl
 ·have h1 : (1 : Int) ≤ ((s.size : Nat) : Int) := by
   have : s.size ≠ 0 := fun h => h0 (Zin.1 h)
   omega
  rw [if_pos h1, decide_eq_false h0, Bool.not_false, Bool.and_true]
  by_cases h2 : ((s.size : Nat) : Int) ≤ 100
  ·rw [if_pos h2, decide_eq_true h2]
   cases Z3z s <;> rfl
  ·rw [if_neg h2, decide_eq_false h2]
   cases Z3z s <;> rfl
def Z6u (c : UInt8) : Bool := decide (97 ≤ c.toNat ∧ c.toNat ≤ 122) || decide (48 ≤ c.toNat ∧ c.toNat ≤ 57) || decide (c.toNat = 45) || decide (c.toNat = 95)
theorem Z5n {p : UInt8 → Bool} : ∀ {l : List UInt8}, l.dropWhile p = [] ↔ l.all p = true
 | [] => by simp
 | x :: l => by
  rw [List.dropWhile_cons, List.all_cons]
  cases h : p x with
  | true => simp only [if_true, Bool.true_and]; exact Z5n
  | false => simp
theorem Z5o {p : UInt8 → Bool} : ∀ {l : List UInt8}, (l.dropWhile p).all p = l.all p
 | [] => rfl
 | x :: l => by
  rw [List.dropWhile_cons]
  cases h : p x with
  | true => simp only [if_true, List.all_cons, h, Bool.true_and]; exact Z5o
  | false => simp only [Bool.false_eq_true, if_false]
theorem Zdo (l cs : List UInt8) : trimS l cs = [] ↔ l.all (fun c => cs.contains c) = true := by
 have e1 : trimLeftS (trimRightS l cs) cs = ((l.reverse.dropWhile (cs.contains ·)).reverse).dropWhile (cs.contains ·) := rfl
 unfold trimS
 rw [e1, Z5n, List.all_reverse, Z5o, List.all_reverse]
abbrev wordCs : ByteArray := Q1e
theorem Zic (c : UInt8) : wordCs.data.toList.contains c = Z6u c := by
 have key : ∀ n : Fin 256, wordCs.data.toList.contains (UInt8.ofNat n.val) = Z6u (UInt8.ofNat n.val) := by decide +kernel
 have h := key ⟨c.toNat, c.toNat_lt⟩
 simp only [UInt8.ofNat_toNat] at h
 exact h
def Z6v (s : ByteArray) : Bool := if 1 ≤ s.size ∧ s.size ≤ 40 then (decide (97 ≤ (bt s 0).toNat ∧ (bt s 0).toNat ≤ 122) && s.data.toList.all Z6u) else false
theorem Z34 (s : ByteArray) : Q1y.f s = some (Z6v s) := by
 unfold Q1y.f Z6v
 simp only [Z3]
 by_cases h1 : ((s.size : Nat) : Int) < 1
 ·rw [if_pos h1, if_neg (by omega)]
 ·by_cases h2 : (40 : Int) < ((s.size : Nat) : Int)
  ·rw [if_neg h1, if_pos h2, if_neg (by omega)]
  ·rw [if_neg h1, if_neg h2, Z1 (by omega), Z1 (by omega), if_pos (show 1 ≤ s.size ∧ s.size ≤ 40 by omega)]
   by_cases h3 : ((UInt8.toNat (bt s 0) : Nat) : Int) < 97
   ·rw [if_pos h3, decide_eq_false (by omega), Bool.false_and]
   ·by_cases h4 : (122 : Int) < ((UInt8.toNat (bt s 0) : Nat) : Int)
    ·rw [if_neg h3, if_pos h4, decide_eq_false (by omega), Bool.false_and]
    ·rw [if_neg h3, if_neg h4, decide_eq_true (by omega), Bool.true_and]
     unfold Q2n.f
     rw [Z1 ⟨by omega, by decide, by decide +kernel⟩, ob_s]
     congr 1
     have h5 : (⟨(trimS s.data.toList wordCs.data.toList).toArray⟩ : ByteArray) = bs_ ↔ s.data.toList.all Z6u = true := by
      have e : s.data.toList.all Z6u = s.data.toList.all (fun c => wordCs.data.toList.contains c) := by
       congr 1; funext c; exact (Zic c).symm
      rw [e, ← Zdo]
      constructor
      ·intro h
       have := congrArg (fun b : ByteArray => b.data.toList) h
       have h7 : trimS s.data.toList wordCs.data.toList = bs_.data.toList := by simpa using this
       exact h7.trans rfl
      ·intro h
       rw [h]; rfl
     cases h6 : s.data.toList.all Z6u with
     | true => exact decide_eq_true (h5.2 h6)
     | false => exact decide_eq_false (fun h => by rw [h5.1 h] at h6; cases h6)
theorem Z9a (s : ByteArray) : Q15.f s = some (Z6v s) := by
 have hl := Z8 s
 unfold Q15.f Q1m.f Z6v
 simp only [Z3]
 by_cases h1 : (1 : Int) ≤ ((s.size : Nat) : Int)
 ·rw [if_pos h1, ob_s]
  by_cases h2 : ((s.size : Nat) : Int) ≤ 40
  ·rw [decide_eq_true h2, Bool.not_true, cb_f, Z1 (by omega), Z1 (by omega), if_pos (show 1 ≤ s.size ∧ s.size ≤ 40 by omega)]
   by_cases h3 : ((UInt8.toNat (bt s 0) : Nat) : Int) < 97
   ·rw [if_pos h3, decide_eq_false (by omega), Bool.false_and]
   ·by_cases h4 : (122 : Int) < ((UInt8.toNat (bt s 0) : Nat) : Int)
    ·rw [if_neg h3, if_pos h4, decide_eq_false (by omega), Bool.false_and]
    ·rw [if_neg h3, if_neg h4, decide_eq_true (by omega), Bool.true_and]
     have hb : BIG = 140737488355328 := rfl
     have h := Z7c (s := s) (by omega) Z6u (fun x => Q15.s0 s (s.size : Int) x) (fun k hk => by
      simp only [Q15.s0, Z3]; rw [if_neg (by omega)]) (fun k hk hp => by
      have c0 : 0 ≤ (k : Int) ∧ (k : Int) < ((s.size : Nat) : Int) := by omega
      have c1 : InR ((k : Int) + 1) := ⟨by omega, by omega⟩
      have hw : Z6u s.data.toList[k] = false := hp
      simp only [Q15.s0, Z3, Z1i, Z8f hk, Z1 c0, Z1 c1, if_pos c0.2]
      unfold Z6u at hw
      by_cases g1 : ((UInt8.toNat s.data.toList[k] : Nat) : Int) < 97 <;> by_cases g2 : (122 : Int) < ((UInt8.toNat s.data.toList[k] : Nat) : Int) <;> by_cases g3 : ((UInt8.toNat s.data.toList[k] : Nat) : Int) < 48 <;> by_cases g4 : (57 : Int) < ((UInt8.toNat s.data.toList[k] : Nat) : Int) <;>
       by_cases g5 : ((UInt8.toNat s.data.toList[k] : Nat) : Int) = 45 <;> by_cases g6 : ((UInt8.toNat s.data.toList[k] : Nat) : Int) = 95 <;> simp only [g1, g2, g3, g4, g5, g6, if_true, if_false] <;>
       first
       | rfl
       | (
        exfalso
        simp only [Bool.or_eq_true, Bool.or_eq_false_iff, decide_eq_true_eq, decide_eq_false_iff_not] at hw
        omega)) (fun k hk hp => by
      have c0 : 0 ≤ (k : Int) ∧ (k : Int) < ((s.size : Nat) : Int) := by omega
      have c1 : InR ((k : Int) + 1) := ⟨by omega, by omega⟩
      have hw : Z6u s.data.toList[k] = true := hp
      simp only [Q15.s0, Z3, Z1i, Z8f hk, Z1 c0, Z1 c1, if_pos c0.2]
      unfold Z6u at hw
      by_cases g1 : ((UInt8.toNat s.data.toList[k] : Nat) : Int) < 97 <;> by_cases g2 : (122 : Int) < ((UInt8.toNat s.data.toList[k] : Nat) : Int) <;> by_cases g3 : ((UInt8.toNat s.data.toList[k] : Nat) : Int) < 48 <;> by_cases g4 : (57 : Int) < ((UInt8.toNat s.data.toList[k] : Nat) : Int) <;>
       by_cases g5 : ((UInt8.toNat s.data.toList[k] : Nat) : Int) = 45 <;> by_cases g6 : ((UInt8.toNat s.data.toList[k] : Nat) : Int) = 95 <;> simp only [g1, g2, g3, g4, g5, g6, if_true, if_false] <;>
       first
       | rfl
       | (
        exfalso
        simp only [Bool.or_eq_true, Bool.or_eq_false_iff, decide_eq_true_eq, decide_eq_false_iff_not] at hw
        omega)) s.data.toList.length 0 (by omega)
     rw [List.drop_zero] at h
     show ob (Zj (fun x => Q15.s0 s (s.size : Int) x) ((0 : Nat) : Int)) _ = _
     rw [h]
     cases s.data.toList.all Z6u <;> rfl
  ·rw [decide_eq_false h2, Bool.not_false, cb_t, if_neg (by omega)]
 ·rw [if_neg h1, ob_s, Bool.not_false, cb_t, if_neg (by omega)]
end Go.Proofs.YtplgphblmeceoaaGreatDoor
set_option linter.unusedVariables false
set_option linter.unusedSimpArgs false
namespace Go.Proofs.YtplgphblmeceoaaGreatDoor
open Go Go.Lib Go.Proofs.YtplgphblmeceoaaGreatDoor.Eng
theorem Zar {s t : ByteArray} (h : s.data.toList = t.data.toList) : s = t := by
 apply ByteArray.ext
 exact Array.toList_inj.1 h
theorem Z8u (s t : ByteArray) : (s ++ t).data.toList = s.data.toList ++ t.data.toList := by simp
theorem L_ex (s : ByteArray) (a b : Nat) : (s.extract a b).data.toList = (s.data.toList.take b).drop a := by simp [ByteArray.data_extract, List.drop_take]
theorem Z94 {s : ByteArray} (hs : s.size ≤ BIG) : Q1i.f s = some (Z3k s) := by
 have hb : BIG = 140737488355328 := rfl
 have hl := Z8 s
 have hi : ∀ c, Qo.f Q26 c = some (Lib.indexByte [46, 95, 45, 43] c) := fun c => rfl
 have key : ∀ k : Nat, ∀ hk : k < s.data.toList.length, Q1i.s0 s (s.size : Int) (k : Int) = some (if Z9s s.data.toList[k] = true then .inl ((k : Int) + 1) else .inr (.inl false)) := fun k hk => by
  have c0 : 0 ≤ (k : Int) ∧ (k : Int) < ((s.size : Nat) : Int) := by omega
  have c1 : InR ((k : Int) + 1) := ⟨by omega, by omega⟩
  simp only [Q1i.s0, Z3, Z8f hk, hi, ob_s, Z1 c0, Z1 c1, if_pos c0.2]
  have e : Z9s s.data.toList[k] = (decide (97 ≤ (s.data.toList[k]).toNat ∧ (s.data.toList[k]).toNat ≤ 122) || decide (65 ≤ (s.data.toList[k]).toNat ∧ (s.data.toList[k]).toNat ≤ 90) || decide (48 ≤ (s.data.toList[k]).toNat ∧ (s.data.toList[k]).toNat ≤ 57) || decide (0 ≤ Lib.indexByte [46, 95, 45, 43] s.data.toList[k])) := rfl
  rw [e]
  by_cases g1 : ((UInt8.toNat s.data.toList[k] : Nat) : Int) < 97 <;> by_cases g2 : (122 : Int) < ((UInt8.toNat s.data.toList[k] : Nat) : Int) <;> by_cases g3 : ((UInt8.toNat s.data.toList[k] : Nat) : Int) < 65 <;> by_cases g4 : (90 : Int) < ((UInt8.toNat s.data.toList[k] : Nat) : Int) <;>
   by_cases g5 : ((UInt8.toNat s.data.toList[k] : Nat) : Int) < 48 <;> by_cases g6 : (57 : Int) < ((UInt8.toNat s.data.toList[k] : Nat) : Int) <;> by_cases g7 : Lib.indexByte [46, 95, 45, 43] s.data.toList[k] < 0 <;>
   first
   | (exfalso; omega)
   | (
    simp only [g1, g2, g3, g4, g5, g6, g7, if_true, if_false]
    first
    | (
     rw [if_pos]
     simp only [Bool.or_eq_true, decide_eq_true_eq]
     omega)
    | (
     rw [if_neg]
     simp only [Bool.or_eq_true, decide_eq_true_eq]
     omega))
 have h := Z7c hs Z9s (fun x => Q1i.s0 s (s.size : Int) x) (fun k hk => by
  simp only [Q1i.s0, Z3]; rw [if_neg (by omega)]) (fun k hk hp => by
  rw [key k hk, hp]; rfl) (fun k hk hp => by
  rw [key k hk, hp]; rfl) s.data.toList.length 0 (by omega)
 rw [List.drop_zero] at h
 unfold Q1i.f Z3k
 show ob (Zj (fun x => Q1i.s0 s (s.size : Int) x) ((0 : Nat) : Int)) _ = _
 rw [h]
 cases s.data.toList.all Z9s
 ·rfl
 ·simp only [if_true, ob_s, Z2x, Bool.true_and, Z1i, Z3]
  by_cases h1 : s = bs_ <;> by_cases h2 : s = Q3a <;> by_cases h3 : s = Q38 <;> simp [h1, h2, h3]
theorem Z93 {s : ByteArray} (hs : s.size ≤ 100000000000) : Q1d.f s = some (Z1j s) := by
 have hb : BIG = 140737488355328 := rfl
 obtain ⟨g1, g2, g3⟩ := Zdt (s := s) hs
 have h := Ze0 (l := Z13 s) Z3k (fun x => Q1d.s0 (Z13 s) ((Z13 s).length : Int) x) (fun k hk => by
  simp only [Q1d.s0, Z3]; rw [if_neg (by omega)]) (fun k hk hp => by
  have hz := g3 _ (List.getElem_mem hk)
  simp only [Q1d.s0, Z3, Zm hk, Z94 (s := (Z13 s)[k]) (by omega), hp, ob_s]; rw [if_pos (by omega), Z1 (by omega)]; rfl) (fun k hk hp => by
  have hz := g3 _ (List.getElem_mem hk)
  simp only [Q1d.s0, Z3, Zm hk, Z94 (s := (Z13 s)[k]) (by omega), hp, ob_s]; rw [if_pos (by omega), Z1 (by omega), Zk (by omega) (by omega)]; rfl) (Z13 s).length 0 (by omega)
 rw [List.drop_zero] at h
 unfold Q1d.f Z1j
 rw [g1, ob_s]
 show ob (Zj (fun x => Q1d.s0 (Z13 s) ((Z13 s).length : Int) x) ((0 : Nat) : Int)) _ = _
 rw [h]
 unfold Q2w.f
 cases (Z13 s).all Z3k with
 | true =>
  simp only [if_true, ob_s, Z2x, Z3]
  by_cases h1 : (1 : Int) ≤ ((s.size : Nat) : Int)
  ·rw [if_pos h1, ob_s]
   by_cases h2 : ((s.size : Nat) : Int) ≤ 200
   ·rw [decide_eq_true h2, if_pos (by omega)]
   ·rw [decide_eq_false h2, if_neg (by omega)]
  ·rw [if_neg h1, ob_s, if_neg (by omega)]
 | false =>
  simp only [Bool.false_eq_true, if_false, ob_s, Z8c]
  split <;> rfl
theorem Zd6 {a : ByteArray × ByteArray} (h1 : a.1.size ≤ 100000000000) (h2 : a.2.size ≤ 100000000000) : Q1p.f a = some (labF a) := by
 unfold Q1p.f Q2l.f labF
 simp only [Z93 h1, Z93 h2, ob_s, Z1i, Z3]
 by_cases e : a.1 = bs_
 ·simp only [e, if_true, true_or, true_and, ob_s, cb_t]
  cases Z1j a.2 <;> rfl
 ·simp only [e, if_false, false_or, ob_s]
  cases Z1j a.1 <;> cases Z1j a.2 <;> rfl
end Go.Proofs.YtplgphblmeceoaaGreatDoor
set_option linter.unusedVariables false
set_option linter.unusedSimpArgs false
namespace Go.Proofs.YtplgphblmeceoaaGreatDoor
open Go Go.Lib Go.Proofs.YtplgphblmeceoaaGreatDoor.Eng
theorem L_47 : Q1f.data.toList = [47, 47] := rfl
theorem L_58 : Q33.data.toList = [58] := rfl
theorem Ze1 {s p : ByteArray} : hasP s p = true ↔ ∃ t, s.data.toList = p.data.toList ++ t := by
 have hl := Z8 s
 have hp := Z8 p
 unfold hasP
 rw [Bool.and_eq_true, decide_eq_true_eq, decide_eq_true_eq]
 constructor
 ·rintro ⟨h1, h2⟩
  have h3 := congrArg (fun b : ByteArray => b.data.toList) h2
  simp only [L_ex, List.drop_zero] at h3
  exact ⟨s.data.toList.drop p.size, by rw [← h3, List.take_append_drop]⟩
 ·rintro ⟨t, ht⟩
  have hlen := congrArg List.length ht
  rw [List.length_append] at hlen
  refine ⟨by omega, Zar ?_⟩
  rw [L_ex, List.drop_zero, ht, List.take_append_of_le_length (by omega), List.take_of_length_le (by omega)]
theorem Z7b {s p : ByteArray} {t : List UInt8} (h : s.data.toList = p.data.toList ++ t) : (cutP s p).2 = true ∧ (cutP s p).1.data.toList = t := by
 have hl := Z8 s
 have hp := Z8 p
 have hlen := congrArg List.length h
 rw [List.length_append] at hlen
 unfold cutP
 rw [if_pos (Ze1.2 ⟨t, h⟩)]
 refine ⟨rfl, ?_⟩
 show (s.extract p.size s.size).data.toList = t
 rw [L_ex, List.take_of_length_le (by omega), h, List.drop_append_of_le_length (by omega), List.drop_of_length_le (by omega), List.nil_append]
theorem Zah {s p : ByteArray} (h : ¬ ∃ t, s.data.toList = p.data.toList ++ t) : cutP s p = (s, false) := by
 unfold cutP
 rw [if_neg (fun h' => h (Ze1.1 h'))]
theorem Zjp (l : List UInt8) : (Lib.indexByte l 58 = -1 ∧ 58 ∉ l) ∨ ∃ a b, l = a ++ 58 :: b ∧ 58 ∉ a ∧ Lib.indexByte l 58 = (a.length : Int) := by
 have h1 := indexByte_lt l 58
 by_cases h : Lib.indexByte l 58 = -1
 ·refine .inl ⟨h, fun hm => ?_⟩
  obtain ⟨k, hk, he⟩ := List.getElem_of_mem hm
  exact indexByte_none h k (by rw [List.getElem?_eq_getElem hk, he])
 ·right
  obtain ⟨o, ho⟩ : ∃ o : Nat, Lib.indexByte l 58 = o := ⟨(Lib.indexByte l 58).toNat, by omega⟩
  obtain ⟨h2, h3⟩ := indexByte_some ho
  have hol : o < l.length := by omega
  refine ⟨l.take o, l.drop (o + 1), ?_, fun hm => ?_, ?_⟩
  ·have : l[o] = 58 := by rw [List.getElem?_eq_getElem hol] at h2; exact Option.some.inj h2
   rw [← this, ← List.drop_eq_getElem_cons hol, List.take_append_drop]
  ·obtain ⟨k, hk, he⟩ := List.getElem_of_mem hm
   have hko : k < o := by have := hk; simp at this; omega
   rw [List.getElem_take] at he
   exact h3 k hko (by rw [List.getElem?_eq_getElem (by omega), he])
  ·rw [ho, List.length_take]; omega
theorem Z5g {a b : List UInt8} (h : 58 ∉ a) : Lib.indexByte (a ++ 58 :: b) 58 = (a.length : Int) := by
 rcases Zjp (a ++ 58 :: b) with ⟨_, h2⟩ | ⟨a', b', h2, h3, h4⟩
 ·exact absurd (by simp) h2
 ·have : a.length = a'.length := by
   have key : ∀ (a a' b b' : List UInt8), 58 ∉ a → 58 ∉ a' → a ++ 58 :: b = a' ++ 58 :: b' → a.length = a'.length := by
    intro a
    induction a with
    | nil =>
     intro a' b b' _ h2 h3
     cases a' with
     | nil => rfl
     | cons x a' =>
      injection h3 with e _
      exact absurd (e ▸ List.mem_cons_self ..) h2
    | cons x a ih =>
     intro a' b b' h1 h2 h3
     cases a' with
     | nil =>
      injection h3 with e _
      exact absurd (e ▸ List.mem_cons_self ..) h1
     | cons y a' =>
      injection h3 with _ e
      have := ih a' b b' (fun h => h1 (List.mem_cons_of_mem _ h)) (fun h => h2 (List.mem_cons_of_mem _ h)) e
      simp [this]
   exact key a a' b b' h h3 h2
  rw [h4, this]
theorem Zdj {s : ByteArray} {a b : List UInt8} (hs : s.data.toList = a ++ 58 :: b) (h : 58 ∉ a) : (Z23 s).1.data.toList = a ∧ (Z23 s).2.1.data.toList = b ∧ (Z23 s).2.2 = true := by
 have hl := Z8 s
 have hi : Lib.indexByte s.data.toList 58 = (a.length : Int) := by rw [hs]; exact Z5g h
 have hlen := congrArg List.length hs
 rw [List.length_append, List.length_cons] at hlen
 unfold Z23
 rw [if_pos (by omega), hi, Int.toNat_natCast]
 refine ⟨?_, ?_, rfl⟩
 ·rw [L_ex, List.drop_zero, hs, List.take_append_of_le_length (Nat.le_refl _), List.take_of_length_le (Nat.le_refl _)]
 ·show (s.extract (a.length + 1) s.size).data.toList = b
  rw [L_ex, List.take_of_length_le (by omega), hs]
  have : a ++ 58 :: b = (a ++ [58]) ++ b := by simp
  rw [this, List.drop_append_of_le_length (by simp), List.drop_of_length_le (by simp), List.nil_append]
theorem Zkb {s : ByteArray} (h : 58 ∉ s.data.toList) : Z23 s = (s, bs_, false) := by
 rcases Zjp s.data.toList with ⟨h1, _⟩ | ⟨a, b, h1, _⟩
 ·unfold Z23
  rw [h1, if_neg (by decide)]
 ·exact absurd (by rw [h1]; simp) h
def IsLab (s : ByteArray) : Prop := ∃ x y : ByteArray, s.data.toList = [47, 47] ++ (x.data.toList ++ 58 :: y.data.toList) ∧ 58 ∉ x.data.toList ∧ labF (x, y) = 0
theorem Z7f {s : ByteArray} (hs : s.size ≤ BIG) : ∃ b, Q1s.f s = some b ∧ (b = true ↔ IsLab s) := by
 have hb : BIG = 140737488355328 := rfl
 have hl := Z8 s
 have hw : ∀ a : ByteArray × ByteArray, a.1.size ≤ s.size → a.2.size ≤ s.size → Q2h.f a = some (((Q1f ++ a.1) ++ Q33) ++ a.2) := fun a h1 h2 => by
  unfold Q2h.f
  have e1 : Q1f.size = 2 := rfl
  have e2 : Q33.size = 1 := rfl
  simp only [ByteArray.size_append, e1, e2]
  rw [Z1 (by omega), Z1 (by omega), Z1 (by omega)]
 have hLw : ∀ a b : ByteArray, (((Q1f ++ a) ++ Q33) ++ b).data.toList = [47, 47] ++ (a.data.toList ++ 58 :: b.data.toList) := fun a b => by
  rw [Z8u, Z8u, Z8u, L_47, L_58]; simp
 unfold Q1s.f Q28.f
 simp only [decide_true, Bool.not_true, cb_f, Z6r, ob_s]
 by_cases hp : ∃ t, s.data.toList = Q1f.data.toList ++ t
 ·obtain ⟨t, ht⟩ := hp
  obtain ⟨c1, c2⟩ := Z7b ht
  have hsz : (cutP s Q1f).1.size ≤ s.size := by
   rw [Z8, c2]
   have := congrArg List.length ht
   rw [List.length_append] at this
   omega
  rw [L_47] at ht
  simp only [c1, cb_t, Zkc (s := (cutP s Q1f).1) (by omega), ob_s]
  rcases Zjp (cutP s Q1f).1.data.toList with ⟨_, hno⟩ | ⟨a, b, h1, h2, _⟩
  ·rw [Zkb hno]
   obtain ⟨r, r1, r2⟩ := Zbx (s := (cutP s Q1f).1) (by omega)
   simp only [Bool.not_false, cb_t, r1, ob_s, Z3p, Z1i, Z3]
   refine ⟨false, ?_, fun h => (by cases h), fun ⟨x, y, h3, _, _⟩ => ?_⟩
   ·by_cases h0 : labF ((cutP s Q1f).1, r) = 0
    ·rw [if_pos h0]
     simp only [ob_s, if_true]
     rw [hw _ hsz (by show r.size ≤ _; omega), ob_s]
     refine congrArg some (decide_eq_false fun e => ?_)
     have e2 := congrArg (fun b : ByteArray => b.data.toList) e
     simp only [hLw] at e2
     rw [ht, c2] at e2
     have := congrArg List.length e2
     simp at this
    ·rw [if_neg h0]
     simp only [ob_s]
     rw [if_neg (by decide)]
   ·rw [ht, List.append_cancel_left_eq] at h3
    rw [c2, h3] at hno
    exact (hno (by simp)).elim
  ·obtain ⟨e1, e2, e3⟩ := Zdj h1 h2
   have hs1 : (Z23 (cutP s Q1f).1).1.size ≤ s.size ∧ (Z23 (cutP s Q1f).1).2.1.size ≤ s.size := by
    have := congrArg List.length h1
    rw [List.length_append, List.length_cons] at this
    have e4 := Z8 (cutP s Q1f).1
    rw [Z8, Z8 (Z23 (cutP s Q1f).1).2.1, e1, e2]
    omega
   simp only [e3, Bool.not_true, cb_f, Z3p, ob_s, Z1i, Z3]
   by_cases h0 : labF ((Z23 (cutP s Q1f).1).1, (Z23 (cutP s Q1f).1).2.1) = 0
   ·rw [if_pos h0]
    simp only [ob_s, if_true]
    rw [hw _ hs1.1 hs1.2, ob_s]
    refine ⟨true, congrArg some (decide_eq_true (Zar ?_)), fun _ => ⟨_, _, ?_, ?_, h0⟩, fun _ => rfl⟩
    ·rw [hLw, e1, e2, ← h1, c2, ht]
    ·rw [e1, e2, ← h1, c2, ht]
    ·rw [e1]; exact h2
   ·rw [if_neg h0]
    simp only [ob_s]
    rw [if_neg (by decide)]
    refine ⟨false, rfl, fun h => (by cases h), fun ⟨x, y, h3, h4, h5⟩ => ?_⟩
    rw [ht, List.append_cancel_left_eq, ← c2] at h3
    obtain ⟨f1, f2, _⟩ := Zdj h3 h4
    rw [Zar f1, Zar f2] at h0
    exact absurd h5 h0
 ·have hnl : ¬ IsLab s := fun ⟨x, y, h3, _, _⟩ => hp ⟨_, h3⟩
  rw [Zah hp]
  simp only [cb_f]
  have fin : ∀ a : ByteArray × ByteArray, a.1.size ≤ s.size → a.2.size ≤ s.size → (ob (ob (Q1b.f a) fun r16 => (cb (!decide (r16 = (0 : Int))) (some ((bs_, bs_), (10 : Int))) (some (a, (0 : Int))))) fun r1 => (cb (decide (r1.2 = (0 : Int))) (ob (Q2h.f r1.1) fun r2 => (some (decide (r2 = s)))) (some false))) = some false := fun a h1 h2 => by
   rw [Z3p, ob_s, Z1i, Z3]
   by_cases h0 : labF a = 0
   ·rw [if_pos h0]
    simp only [ob_s, Z3, if_true]
    rw [hw a h1 h2, ob_s]
    refine congrArg some (decide_eq_false fun e => ?_)
    have e2 := congrArg (fun b : ByteArray => b.data.toList) e
    simp only [hLw] at e2
    exact hp ⟨_, e2.symm⟩
   ·rw [if_neg h0]
    simp only [ob_s, Z3]
    rw [if_neg (by decide)]
  refine ⟨false, ?_, fun h => (by cases h), fun h => absurd h hnl⟩
  by_cases hq : ∃ t, s.data.toList = Q33.data.toList ++ t
  ·obtain ⟨t, ht⟩ := hq
   obtain ⟨c1, c2⟩ := Z7b ht
   rw [c1, cb_t]
   refine fin (bs_, (cutP s Q33).1) (Nat.zero_le _) ?_
   show (cutP s Q33).1.size ≤ _
   rw [Z8, c2]
   have := congrArg List.length ht
   rw [List.length_append] at this
   omega
  ·rw [Zah hq, cb_f]
   exact fin (bs_, bs_) (Nat.zero_le _) (Nat.zero_le _)
theorem Zgt {s : ByteArray} (hs : s.size ≤ 100000000000) : ∃ b, Q2c.f s = some b ∧ (b = true ↔ IsLab s) := by
 have hb : BIG = 140737488355328 := rfl
 have hl := Z8 s
 have hLw : ∀ a b : ByteArray, (((Q1f ++ a) ++ Q33) ++ b).data.toList = [47, 47] ++ (a.data.toList ++ 58 :: b.data.toList) := fun a b => by
  rw [Z8u, Z8u, Z8u, L_47, L_58]; simp
 have e1 : Q1f.size = 2 := rfl
 have e2 : Q33.size = 1 := rfl
 have hpkg : Q2l.f bs_ = some true := rfl
 have lastE : ∀ x : ByteArray, Q2y.f x = Q2i.f x := fun x => rfl
 have fin : ∀ a : ByteArray × ByteArray, a.1.size ≤ s.size → a.2.size ≤ s.size → (ob (ob (Q1p.f a) fun r4 => (cb (!decide (r4 = (0 : Int))) (some ((bs_, bs_), (10 : Int))) (some (a, (0 : Int))))) fun r1 => (cb (decide (r1.2 = (0 : Int))) (ck (((ByteArray.size Q1f + ByteArray.size r1.1.1 : Nat) : Int) ≤ 9223372036854775807) (ck (((ByteArray.size (Q1f ++ r1.1.1) + ByteArray.size Q33 : Nat) : Int) ≤ 9223372036854775807) (let y2 : ByteArray := ((Q1f ++ r1.1.1) ++ Q33); (ck (((ByteArray.size y2 + ByteArray.size r1.1.2 : Nat) : Int) ≤ 9223372036854775807) (some (decide (s = (y2 ++ r1.1.2)))))))) (some false))) = some (decide (labF a = 0) && decide (s = ((Q1f ++ a.1) ++ Q33) ++ a.2)) := fun a h1 h2 => by
  rw [Zd6 (by omega) (by omega), ob_s, Z1i, Z3]
  by_cases h0 : labF a = 0
  ·rw [if_pos h0, decide_eq_true h0, Bool.true_and]
   simp only [ob_s, Z3, if_true, ByteArray.size_append, e1, e2]
   rw [Z1 (by omega), Z1 (by omega), Z1 (by omega)]
  ·rw [if_neg h0, decide_eq_false h0, Bool.false_and]
   simp only [ob_s, Z3]
   rw [if_neg (by decide)]
 have err : (ob (some ((bs_, bs_), (10 : Int))) fun r1 => (cb (decide (r1.2 = (0 : Int))) (ck (((ByteArray.size Q1f + ByteArray.size r1.1.1 : Nat) : Int) ≤ 9223372036854775807) (ck (((ByteArray.size (Q1f ++ r1.1.1) + ByteArray.size Q33 : Nat) : Int) ≤ 9223372036854775807) (let y2 : ByteArray := ((Q1f ++ r1.1.1) ++ Q33); (ck (((ByteArray.size y2 + ByteArray.size r1.1.2 : Nat) : Int) ≤ 9223372036854775807) (some (decide (s = (y2 ++ r1.1.2)))))))) (some false))) = some false := by
  simp only [ob_s, Z3]
  rw [if_neg (by decide)]
 unfold Q2c.f Q2e.f
 simp only [hpkg, ob_s, Bool.not_true, cb_f, Zkc (s := s) (by omega), Z6r]
 rcases Zjp s.data.toList with ⟨_, hno⟩ | ⟨a, b, h1, h2, _⟩
 ·
  have hnl : ¬ IsLab s := fun ⟨x, y, h3, _, _⟩ => hno (by rw [h3]; simp)
  rw [Zkb hno]
  simp only [cb_f]
  refine ⟨false, ?_, fun h => (by cases h), fun h => absurd h hnl⟩
  by_cases hp : ∃ t, s.data.toList = Q1f.data.toList ++ t
  ·obtain ⟨t, ht⟩ := hp
   obtain ⟨c1, c2⟩ := Z7b ht
   have hsz : (cutP s Q1f).1.size ≤ s.size := by
    rw [Z8, c2]
    have := congrArg List.length ht
    rw [List.length_append] at this
    omega
   obtain ⟨r, r1, r2⟩ := Zbx (s := (cutP s Q1f).1) (by omega)
   simp only [c1, cb_t, Z1i, Z3, lastE, r1, ob_s]
   by_cases h0 : (cutP s Q1f).1 = bs_
   ·rw [if_pos h0]; exact err
   ·rw [if_neg h0]
    have := fin ((cutP s Q1f).1, r) hsz (by show r.size ≤ _; omega)
    simp only [Z1i, Z3] at this
    rw [this]
    refine congrArg some ?_
    rw [Bool.and_eq_false_iff]
    right
    refine decide_eq_false fun e => ?_
    have e2 := congrArg (fun b : ByteArray => b.data.toList) e
    simp only [hLw] at e2
    exact hno (by rw [e2]; simp)
  ·rw [Zah hp]
   simp only [cb_f]
   exact err
 ·obtain ⟨f1, f2, f3⟩ := Zdj h1 h2
  have hla : (Z23 s).1.size ≤ s.size ∧ (Z23 s).2.1.size ≤ s.size := by
   have := congrArg List.length h1
   rw [List.length_append, List.length_cons] at this
   rw [Z8 (Z23 s).1, Z8 (Z23 s).2.1, f1, f2]
   omega
  rw [f3]
  simp only [cb_t, Z3]
  by_cases h0 : (Z23 s).1 = bs_
  ·rw [if_pos h0]
   have ha : a = [] := by rw [← f1, h0]; rfl
   subst ha
   have hnl : ¬ IsLab s := fun ⟨x, y, h3, _, _⟩ => by
    rw [h1] at h3
    injection h3 with e _
    cases e
   have := fin (bs_, (Z23 s).2.1) (Nat.zero_le _) hla.2
   simp only [Z1i, Z3] at this ⊢
   rw [this]
   refine ⟨_, rfl, fun h => ?_, fun h => absurd h hnl⟩
   rw [Bool.and_eq_true, decide_eq_true_eq, decide_eq_true_eq] at h
   have e2 := congrArg (fun b : ByteArray => b.data.toList) h.2
   simp only [hLw] at e2
   rw [h1] at e2
   injection e2 with e _
   cases e
  ·rw [if_neg h0]
   by_cases hp : ∃ t, (Z23 s).1.data.toList = Q1f.data.toList ++ t
   ·obtain ⟨t, ht⟩ := hp
    obtain ⟨c1, c2⟩ := Z7b ht
    have hsz : (cutP (Z23 s).1 Q1f).1.size ≤ s.size := by
     rw [Z8, c2]
     have := congrArg List.length ht
     rw [List.length_append, ← Z8] at this
     omega
    simp only [c1, cb_t]
    have := fin ((cutP (Z23 s).1 Q1f).1, (Z23 s).2.1) hsz hla.2
    simp only [Z1i, Z3] at this ⊢
    rw [this]
    rw [f1, L_47] at ht
    have hsl : s.data.toList = [47, 47] ++ (t ++ 58 :: b) := by rw [h1, ht]; simp
    refine ⟨_, rfl, fun h => ?_, fun ⟨x, y, h3, h4, h5⟩ => ?_⟩
    ·rw [Bool.and_eq_true, decide_eq_true_eq, decide_eq_true_eq] at h
     refine ⟨_, _, ?_, ?_, h.1⟩
     ·rw [c2, f2]; exact hsl
     ·rw [c2]; exact fun hm => h2 (by rw [ht]; exact List.mem_append_right _ hm)
    ·rw [hsl, List.append_cancel_left_eq] at h3
     have ht58 : 58 ∉ t := fun hm => h2 (by rw [ht]; exact List.mem_append_right _ hm)
     have hlen : (t.length : Int) = (x.data.toList.length : Int) := by
      rw [← Z5g (b := b) ht58, h3, Z5g h4]
     obtain ⟨g1, g2⟩ := List.append_inj h3 (by omega)
     injection g2 with _ g2
     have ex : (cutP (Z23 s).1 Q1f).1 = x := Zar (by rw [c2, g1])
     have ey : (Z23 s).2.1 = y := Zar (by rw [f2, g2])
     rw [ex, ey, decide_eq_true h5, Bool.true_and]
     refine decide_eq_true (Zar ?_)
     rw [hLw, hsl, g1, g2]
   ·rw [Zah hp]
    simp only [cb_f]
    refine ⟨false, err, fun h => (by cases h), fun ⟨x, y, h3, h4, _⟩ => absurd ⟨x.data.toList, ?_⟩ hp⟩
    rw [f1, L_47]
    have h5 : a ++ 58 :: b = ([47, 47] ++ x.data.toList) ++ 58 :: y.data.toList := by rw [← h1, h3]; simp
    have h58 : (58 : UInt8) ∉ [47, 47] ++ x.data.toList := fun hm => by
     rcases List.mem_append.1 hm with h | h
     ·revert h; decide
     ·exact h4 h
    have hlen : (a.length : Int) = (([47, 47] ++ x.data.toList).length : Int) := by
     rw [← Z5g (b := b) h2, h5, Z5g h58]
    exact (List.append_inj h5 (by omega)).1
theorem Zj8 {s : ByteArray} (hs : s.size ≤ 100000000000) : Q2c.f s = Q1s.f s ∧ ∃ b, Q1s.f s = some b := by
 have hb : BIG = 140737488355328 := rfl
 obtain ⟨b1, h1, h2⟩ := Z7f (s := s) (by omega)
 obtain ⟨b2, h3, h4⟩ := Zgt hs
 have : b1 = b2 := by rw [Bool.eq_iff_iff, h2, h4]
 rw [h1, h3, this]
 exact ⟨rfl, _, rfl⟩
end Go.Proofs.YtplgphblmeceoaaGreatDoor
set_option linter.unusedVariables false
set_option linter.unusedSimpArgs false
namespace Go.Proofs.YtplgphblmeceoaaGreatDoor
open Go Go.Lib Go.Proofs.YtplgphblmeceoaaGreatDoor.Eng
abbrev Wr := ByteArray × (ByteArray × ((List ByteArray) × (Int × Int)))
theorem Zcc {β : Type} {c : Prop} {a : Option β} (h : ¬ c) : ck c a = none := by unfold ck; rw [if_neg h]
theorem Z2c (s p : ByteArray) : Q19.f s p = some (hasP s p) := by
 unfold Q19.f
 rw [Z6o]; rfl
theorem hasP_ne {s : ByteArray} (h : hasP s Q1f = true) : s ≠ bs_ := fun e => by
 rw [e] at h
 exact absurd h (by decide)
theorem Zit {w : Wr} (hw : ∀ y ∈ w.2.2.1, y.size ≤ BIG) (x : Int) : Qh.s0 w w.2.2.1 (w.2.2.1.length : Int) x = Qe.s0 w.2.2.1 w.2.2.1 (w.2.2.1.length : Int) x := by
 unfold Qh.s0 Qe.s0
 simp only [Z3]
 by_cases h1 : x < (w.2.2.1.length : Int)
 ·rw [if_pos h1, if_pos h1]
  by_cases h2 : 0 ≤ x
  ·obtain ⟨k, rfl⟩ : ∃ k : Nat, x = k := ⟨x.toNat, by omega⟩
   have hk : k < w.2.2.1.length := by omega
   have c0 : 0 ≤ (k : Int) ∧ (k : Int) < (w.2.2.1.length : Int) := ⟨h2, h1⟩
   simp only [Z1 c0, Zm hk, Z2c, ob_s, Z4f, Z75 (hw _ (List.getElem_mem hk))]
   cases hp : hasP w.2.2.1[k] Q1f with
   | false => rfl
   | true => rw [decide_eq_false (hasP_ne hp), Bool.not_false, Bool.and_true]
  ·have c0 : ¬ (0 ≤ x ∧ x < (w.2.2.1.length : Int)) := fun h => h2 h.1
   simp only [Zcc c0]
 ·rw [if_neg h1, if_neg h1]
theorem Ziu {l : List ByteArray} (hl : l.length ≤ 1000) (hw : ∀ y ∈ l, y.size ≤ BIG) : ∀ (n k : Nat), l.length - k = n → ∃ r, Qe.l0 l l (l.length : Int) (k : Int) = some r ∧ (r = .inr () ∨ r = .inl 3 ∨ r = .inl 8) := by
 intro n
 induction n with
 | zero =>
  intro k hn
  refine ⟨.inr (), Z2 ?_, .inl rfl⟩
  simp only [Qe.s0, Z3]
  rw [if_neg (by omega)]
 | succ n ih =>
  intro k hn
  have hk : k < l.length := by omega
  have c0 : 0 ≤ (k : Int) ∧ (k : Int) < (l.length : Int) := by omega
  have c1 : InR ((k : Int) + 1) := ⟨by omega, by omega⟩
  obtain ⟨r, r1, r2⟩ := ih (k + 1) (by omega)
  have hnext : Qe.s0 l l (l.length : Int) (k : Int) = some (.inl ((k : Int) + 1)) → ∃ r, Qe.l0 l l (l.length : Int) (k : Int) = some r ∧ (r = .inr () ∨ r = .inl 3 ∨ r = .inl 8) := fun h => ⟨r, (Z5 h).trans r1, r2⟩
  have hstop : ∀ f : Int, (f = 3 ∨ f = 8) → Qe.s0 l l (l.length : Int) (k : Int) = some (.inr (.inl f)) → ∃ r, Qe.l0 l l (l.length : Int) (k : Int) = some r ∧ (r = .inr () ∨ r = .inl 3 ∨ r = .inl 8) := fun f hf h => ⟨.inl f, Z2 h, .inr (hf.imp (fun e => by rw [e]) (fun e => by rw [e]))⟩
  have hs : Qe.s0 l l (l.length : Int) (k : Int) = (cb (!hasP l[k] Q1f) (some (.inr (.inl 3))) (cb (decide ((1000 : Int) < ((l[k].size : Nat) : Int))) (some (.inr (.inl 3))) (cb (!(Z3z l[k] && !decide (l[k] = bs_))) (some (.inr (.inl 3))) (cb (decide ((0 : Int) < (k : Int))) (ck (InR ((k : Int) - 1)) (ck (0 ≤ (k : Int) - 1 ∧ (k : Int) - 1 < (l.length : Int)) (cb (Z3v l[k] (rd ByteArray.empty l ((k : Int) - 1)) || decide (l[k] = (rd ByteArray.empty l ((k : Int) - 1)))) (some (.inr (.inl 8))) (some (.inl ((k : Int) + 1)))))) (some (.inl ((k : Int) + 1))))))) := by
   simp only [Qe.s0, Zm hk, Z2c, Z75 (hw _ (List.getElem_mem hk)), ob_s, Z1 c0, Z1 c1]
   rw [Z3, if_pos c0.2]
  cases b1 : hasP l[k] Q1f with
  | false => exact hstop 3 (.inl rfl) (by rw [hs, b1]; rfl)
  | true =>
   by_cases b2 : (1000 : Int) < ((l[k].size : Nat) : Int)
   ·exact hstop 3 (.inl rfl) (by rw [hs, b1, decide_eq_true b2]; rfl)
   ·cases b3 : (Z3z l[k] && !decide (l[k] = bs_)) with
    | false => exact hstop 3 (.inl rfl) (by rw [hs, b1, decide_eq_false b2, b3]; rfl)
    | true =>
     by_cases b4 : (0 : Int) < (k : Int)
     ·cases b5 : (Z3v l[k] (rd ByteArray.empty l ((k : Int) - 1)) || decide (l[k] = (rd ByteArray.empty l ((k : Int) - 1)))) with
      | true => exact hstop 8 (.inr rfl) (by
        rw [hs, b1, decide_eq_false b2, b3, decide_eq_true b4, b5]
        simp only [Bool.not_true, cb_f, cb_t]
        rw [Zk (by omega) (by omega), Z1 (by omega)])
      | false => exact hnext (by
        rw [hs, b1, decide_eq_false b2, b3, decide_eq_true b4, b5]
        simp only [Bool.not_true, cb_f, cb_t]
        rw [Zk (by omega) (by omega), Z1 (by omega)])
     ·exact hnext (by rw [hs, b1, decide_eq_false b2, b3, decide_eq_false b4]; rfl)
theorem prefs {w : Wr} (hw : ∀ y ∈ w.2.2.1, y.size ≤ BIG) : ∃ r : Int, Qe.f w.2.2.1 = some r ∧ ∀ X : Option Int, (cb (decide ((30 : Int) < ((w.2.2.1.length : Nat) : Int))) (some (2 : Int)) (ob (Qh.l0 w w.2.2.1 ((w.2.2.1.length : Nat) : Int) (0 : Int)) fun r15 => (Z1g r15 (fun a16 => (some a16)) (fun b17 => X)))) = if r = 0 then X else some r := by
 have hloop : Qh.l0 w w.2.2.1 ((w.2.2.1.length : Nat) : Int) 0 = Qe.l0 w.2.2.1 w.2.2.1 ((w.2.2.1.length : Nat) : Int) 0 := by
  unfold Qh.l0 Qe.l0
  congr 1
  funext x
  exact Zit hw x
 unfold Qe.f
 rw [hloop]
 simp only [Z3]
 by_cases h1 : (30 : Int) < ((w.2.2.1.length : Nat) : Int)
 ·rw [if_pos h1]
  exact ⟨2, rfl, fun X => by rw [if_pos h1, if_neg (by decide)]⟩
 ·rw [if_neg h1]
  obtain ⟨r, r1, r2⟩ := Ziu (l := w.2.2.1) (by omega) hw w.2.2.1.length 0 (by omega)
  rw [show ((0 : Nat) : Int) = 0 from rfl] at r1
  rw [r1]
  rcases r2 with rfl | rfl | rfl
  ·exact ⟨0, rfl, fun X => by rw [if_neg h1, if_pos rfl]; rfl⟩
  ·exact ⟨3, rfl, fun X => by rw [if_neg h1, if_neg (by decide)]; rfl⟩
  ·exact ⟨8, rfl, fun X => by rw [if_neg h1, if_neg (by decide)]; rfl⟩
def szW (w : Wr) : Prop := w.1.size ≤ 100000000000 ∧ w.2.1.size ≤ 100000000000 ∧ ∀ y ∈ w.2.2.1, y.size ≤ 100000000000
theorem Z1n (a b c : Int) : Q1n.f a b c = some (decide (b ≤ a ∧ a ≤ c)) := by
 unfold Q1n.f
 rw [Z3]
 by_cases h : b ≤ a <;> simp [h]
theorem Z5s (a b c : Int) : Q1m.f a b c = some (decide (b ≤ a ∧ a ≤ c)) := Z1n a b c
theorem Z7n {s : ByteArray} (hs : s.size ≤ BIG) : ∃ b, Q24.f s = some b := by
 unfold Q24.f
 rw [Z75 hs, ob_s]
 cases (Z3z s && !decide (s = bs_)) <;> exact ⟨_, rfl⟩
theorem Zed {l : List Wr} (hl : l.length ≤ 1000) (hs : ∀ w ∈ l, szW w) (x : Int) : Q7.s0 l l (l.length : Int) x = Qm.s0 l l (l.length : Int) x := by
 have hb : BIG = 140737488355328 := rfl
 unfold Q7.s0 Qm.s0
 simp only [Z3]
 by_cases h1 : x < (l.length : Int)
 ·rw [if_pos h1, if_pos h1]
  by_cases h2 : 0 ≤ x
  ·obtain ⟨k, rfl⟩ : ∃ k : Nat, x = k := ⟨x.toNat, by omega⟩
   have hk : k < l.length := by omega
   have hw := hs _ (List.getElem_mem hk)
   obtain ⟨r, r1, r2⟩ := prefs (w := l[k]) (fun y hy => by have := hw.2.2 y hy; omega)
   obtain ⟨b, b1⟩ := Z7n (s := l[k].2.1) (by have := hw.2.1; omega)
   have c0 : 0 ≤ (k : Int) ∧ (k : Int) < (l.length : Int) := ⟨h2, h1⟩
   simp only [Z1 c0, Zm hk]
   unfold Qh.f
   simp only [Z34, Z9a, Z81 (s := l[k].2.1) (by have := hw.2.1; omega), b1, ob_s, r1, r2, Z1n, Z5s]
   cases Z6v l[k].1 with
   | false => rfl
   | true =>
    cases b with
    | false => rfl
    | true =>
     simp only [Bool.not_true, cb_f]
     by_cases h3 : r = 0
     ·rw [if_pos h3, decide_eq_true h3]
      simp only [Bool.not_true, cb_f]
      cases decide (0 ≤ l[k].2.2.2.1 ∧ l[k].2.2.2.1 ≤ 1000000000) with
      | false => rfl
      | true =>
       cases decide (0 ≤ l[k].2.2.2.2 ∧ l[k].2.2.2.2 ≤ 1000000001) with
       | false => rfl
       | true =>
        simp only [Bool.not_true, cb_f, Z3]
        by_cases h4 : l[k].2.2.2.2 ≤ l[k].2.2.2.1
        ·rw [if_pos h4, if_pos h4]; rfl
        ·rw [if_neg h4, if_neg h4]; rfl
     ·rw [if_neg h3, decide_eq_false h3, ob_s, decide_eq_false h3]
      rfl
  ·have c0 : ¬ (0 ≤ x ∧ x < (l.length : Int)) := fun h => h2 h.1
   simp only [Zcc c0]
 ·rw [if_neg h1, if_neg h1]
theorem Ze6 {l : List Wr} (hs : ∀ w ∈ l, szW w) : Q7.f l = Qm.f l := by
 unfold Q7.f Qm.f
 simp only [Z3]
 by_cases h1 : (50 : Int) < ((l.length : Nat) : Int)
 ·rw [if_pos h1, if_pos h1]
 ·rw [if_neg h1, if_neg h1]
  have : Q7.l0 l l ((l.length : Nat) : Int) 0 = Qm.l0 l l ((l.length : Nat) : Int) 0 := by
   unfold Q7.l0 Qm.l0
   congr 1
   funext x
   exact Zed (by omega) hs x
  rw [this]
end Go.Proofs.YtplgphblmeceoaaGreatDoor
set_option linter.unusedVariables false
set_option linter.unusedSimpArgs false
namespace Go.Proofs.YtplgphblmeceoaaGreatDoor
open Go Go.Lib Go.Proofs.YtplgphblmeceoaaGreatDoor.Eng
def labs (g : List Wr) : List ByteArray := g.map (·.1)
theorem Z1x {g : List Wr} {k : Nat} (h : k < g.length) : (labs g)[k]'(by unfold labs; simpa using h) = g[k].1 := by simp [labs]
theorem Za7 (n : Wr) (s : ByteArray) : Q2k.f n s = some (cmpS n.1 s) := rfl
theorem half {a b : Nat} (ha : a ≤ 100000000000) (hb : b ≤ 100000000000) : IntKind.i64.wrap (Int.fdiv (IntKind.u64.wrap ((a : Int) + (b : Int))) (2 ^ min (Int.toNat (1 : Int)) (IntKind.bits .u64))) = ((a + b) / 2 : Nat) := by
 have e1 : IntKind.u64.wrap ((a : Int) + (b : Int)) = ((a + b : Nat) : Int) := by
  simp only [IntKind.wrap, IntKind.bits, IntKind.signed, Bool.false_and, Bool.false_eq_true, if_false]
  have e : (2 : Int) ^ 64 = 18446744073709551616 := by decide
  rw [e]; omega
 have e2 : (2 : Int) ^ min (Int.toNat (1 : Int)) (IntKind.bits .u64) = 2 := by decide
 rw [e1, e2]
 have e3 : Int.fdiv ((a + b : Nat) : Int) 2 = ((a + b) / 2 : Nat) := by
  rw [Int.fdiv_eq_ediv_of_nonneg _ (by decide)]; omega
 rw [e3]
 exact IntWalk.i64_in _ ⟨by omega, by omega⟩
theorem Zde {g : List Wr} (hl : g.length ≤ 1000) (hr : Rising (labs g)) (s : ByteArray) : ∃ r, Q2f.f g s = some r ∧ ((r.2 = false ∧ ∀ k : Nat, ∀ h : k < g.length, g[k].1 ≠ s) ∨ ∃ k : Nat, ∃ h : k < g.length, r = (g[k], true) ∧ g[k].1 = s) := by
 have go : ∀ (n a b : Nat), b - a = n → a ≤ b → b ≤ g.length → (∀ k : Nat, ∀ h : k < g.length, k < a → cmpS g[k].1 s < 0) → (∀ k : Nat, ∀ h : k < g.length, b ≤ k → ¬ cmpS g[k].1 s < 0) →
   ∃ c : Nat, Q0.l0 g s (a : Int) (b : Int) = some (c : Int) ∧ c ≤ g.length ∧ (∀ k : Nat, ∀ h : k < g.length, k < c → cmpS g[k].1 s < 0) ∧ (∀ k : Nat, ∀ h : k < g.length, c ≤ k → ¬ cmpS g[k].1 s < 0) := by
  intro n
  induction n using Nat.strongRecOn with
  | _ n ih =>
   intro a b hn hab hb h1 h2
   rcases Nat.lt_or_ge a b with hlt | hge
   ·have hm : (a + b) / 2 < g.length := by omega
    have hh := half (a := a) (b := b) (by omega) (by omega)
    have hmono : ∀ i j : Nat, ∀ hi : i < g.length, ∀ hj : j < g.length, i < j → cmpS g[i].1 g[j].1 < 0 := fun i j hi hj hij => by
     have := hr i j (by unfold labs; simpa using hj) hij
     rw [Z1x hi, Z1x hj] at this
     exact this
    by_cases hc : cmpS g[(a + b) / 2].1 s < 0
    ·obtain ⟨c, h3, h4⟩ := ih (b - ((a + b) / 2 + 1)) (by omega) ((a + b) / 2 + 1) b rfl (by omega) hb (fun k hk hka => by
      rcases Nat.lt_or_ge k ((a + b) / 2) with h | h
      ·exact Z69 (hmono k _ hk hm h) hc
      ·have : k = (a + b) / 2 := by omega
       subst this; exact hc) h2
     refine ⟨c, (Z5 ?_).trans h3, h4⟩
     simp only [Q0.s0, Z3, hh, Zm hm, Za7, ob_s]
     rw [if_pos (by omega), Zk (by omega) (by omega), Z1 (by omega), if_pos hc, Zk (by omega) (by omega)]
     rfl
    ·obtain ⟨c, h3, h4⟩ := ih ((a + b) / 2 - a) (by omega) a ((a + b) / 2) rfl (by omega) (by omega) h1 (fun k hk hka => by
      intro h
      rcases Nat.lt_or_ge ((a + b) / 2) k with h5 | h5
      ·exact hc (Z69 (hmono _ k hm hk h5) h)
      ·have : k = (a + b) / 2 := by omega
       subst this; exact hc h)
     refine ⟨c, (Z5 ?_).trans h3, h4⟩
     simp only [Q0.s0, Z3, hh, Zm hm, Za7, ob_s]
     rw [if_pos (by omega), Zk (by omega) (by omega), Z1 (by omega), if_neg hc]
   ·have e : a = b := by omega
    subst e
    refine ⟨a, Z2 ?_, hb, h1, h2⟩
    simp only [Q0.s0, Z3]
    rw [if_neg (by omega)]
 obtain ⟨c, h1, h2, h3, h4⟩ := go _ 0 g.length rfl (Nat.zero_le _) (Nat.le_refl _) (fun k _ h => absurd h (Nat.not_lt_zero _)) (fun k hk h => by omega)
 rw [show ((0 : Nat) : Int) = 0 from rfl] at h1
 unfold Q2f.f Q0.f
 simp only [h1, ob_s, Z3]
 by_cases hc : c < g.length
 ·rw [if_pos (by omega), Z1 (by omega)]
  simp only [Zm hc, Za7, ob_s]
  by_cases h0 : cmpS g[c].1 s = 0
  ·simp only [h0, decide_true, Bool.not_true, cb_f]
   rw [Z1 (by omega)]
   exact ⟨_, rfl, .inr ⟨c, hc, rfl, (Z4j _ _).1 h0⟩⟩
  ·simp only [h0, decide_false, Bool.not_false, cb_t]
   refine ⟨_, rfl, .inl ⟨rfl, fun k hk e => ?_⟩⟩
   have hz : cmpS g[k].1 s = 0 := (Z4j _ _).2 e
   rcases Nat.lt_trichotomy k c with h | h | h
   ·have := h3 k hk h; omega
   ·subst h; exact h0 hz
   ·have h5 := hr c k (by unfold labs; simpa using hk) h
    rw [Z1x hc, Z1x hk, e] at h5
    exact h4 c hc (Nat.le_refl _) h5
 ·rw [if_neg (by omega)]
  simp only [ob_s, Bool.not_false, cb_t]
  refine ⟨_, rfl, .inl ⟨rfl, fun k hk e => ?_⟩⟩
  have hz : cmpS g[k].1 s = 0 := (Z4j _ _).2 e
  have := h3 k hk (by omega)
  omega
theorem Zco {w : Wr} (hw : szW w) : ∃ c, Qh.f w = some c := by
 have hb : BIG = 140737488355328 := rfl
 obtain ⟨r, r1, r2⟩ := prefs (w := w) (fun y hy => by have := hw.2.2 y hy; omega)
 obtain ⟨b, b1⟩ := Z7n (s := w.2.1) (by have := hw.2.1; omega)
 unfold Qh.f
 simp only [Z34, Z81 (s := w.2.1) (by have := hw.2.1; omega), b1, ob_s, r2, Z1n]
 cases Z6v w.1 with
 | false => exact ⟨_, rfl⟩
 | true =>
  cases b with
  | false => exact ⟨_, rfl⟩
  | true =>
   simp only [Bool.not_true, cb_f]
   split
   ·cases decide (0 ≤ w.2.2.2.1 ∧ w.2.2.2.1 ≤ 1000000000) with
    | false => exact ⟨_, rfl⟩
    | true =>
     cases decide (0 ≤ w.2.2.2.2 ∧ w.2.2.2.2 ≤ 1000000001) with
     | false => exact ⟨_, rfl⟩
     | true =>
      simp only [Bool.not_true, cb_f, Z3]
      split <;> exact ⟨_, rfl⟩
   ·exact ⟨_, rfl⟩
theorem Zhu {l : List Wr} (hl : l.length ≤ 1000) (hs : ∀ w ∈ l, szW w) : ∀ (n k : Nat), l.length - k = n → (∃ f : Int, f ≠ 0 ∧ Q7.l0 l l (l.length : Int) (k : Int) = some (.inl f)) ∨
  (Q7.l0 l l (l.length : Int) (k : Int) = some (.inr ()) ∧ ∀ i : Nat, ∀ h : i + 1 < l.length, k ≤ i + 1 → cmpS (l[i]'(by omega)).1 l[i + 1].1 < 0) := by
 intro n
 induction n with
 | zero =>
  intro k hn
  refine .inr ⟨Z2 ?_, fun i h hki => by omega⟩
  simp only [Q7.s0, Z3]
  rw [if_neg (by omega)]
 | succ n ih =>
  intro k hn
  have hlt : k < l.length := by omega
  obtain ⟨f, h1⟩ := Zco (hs _ (List.getElem_mem hlt))
  by_cases hf : f = 0
  ·subst hf
   have cont : (∀ h0 : 0 < k, ¬ cmpS l[k].1 (l[k - 1]'(by omega)).1 ≤ 0) → Q7.s0 l l (l.length : Int) (k : Int) = some (.inl ((k : Int) + 1)) → (∃ f : Int, f ≠ 0 ∧ Q7.l0 l l (l.length : Int) (k : Int) = some (.inl f)) ∨
     (Q7.l0 l l (l.length : Int) (k : Int) = some (.inr ()) ∧ ∀ i : Nat, ∀ h : i + 1 < l.length, k ≤ i + 1 → cmpS (l[i]'(by omega)).1 l[i + 1].1 < 0) := fun hc hstep => by
    rcases ih (k + 1) (by omega) with ⟨f, h3, h4⟩ | ⟨h3, h5⟩
    ·exact .inl ⟨f, h3, (Z5 hstep).trans h4⟩
    ·refine .inr ⟨(Z5 hstep).trans h3, fun i hi hki => ?_⟩
     rcases Nat.lt_or_ge i k with h6 | h6
     ·have e : k = i + 1 := by omega
      subst e
      have h8 : ¬ cmpS l[i + 1].1 (l[i]'(by omega)).1 ≤ 0 := hc (by omega)
      have := Zhr l[i + 1].1 (l[i]'(by omega)).1
      omega
     ·exact h5 i hi (by omega)
   rcases Nat.eq_zero_or_pos k with h0 | h0
   ·subst h0
    refine cont (fun h => absurd h (Nat.lt_irrefl _)) ?_
    simp only [Q7.s0, Z3, Zm hlt, h1, ob_s, decide_true, Bool.not_true, cb_f]
    rw [if_pos (by omega), Z1 (by omega), if_neg (by omega), Zk (by omega) (by omega)]
   ·obtain ⟨k', rfl⟩ : ∃ k', k = k' + 1 := ⟨k - 1, by omega⟩
    have hk' : k' < l.length := by omega
    have e : ((k' + 1 : Nat) : Int) - 1 = (k' : Int) := by omega
    by_cases hc : cmpS l[k' + 1].1 l[k'].1 ≤ 0
    ·refine .inl ⟨8, by decide, Z2 ?_⟩
     simp only [Q7.s0, Z3, Zm hlt, h1, ob_s, decide_true, Bool.not_true, cb_f, e, Zm hk', Zgm]
     rw [if_pos (by omega), Z1 (by omega), if_pos (by omega), Zk (by omega) (by omega), Z1 (by omega), if_pos hc]
    ·refine cont (fun _ => hc) ?_
     simp only [Q7.s0, Z3, Zm hlt, h1, ob_s, decide_true, Bool.not_true, cb_f, e, Zm hk', Zgm]
     rw [if_pos (by omega), Z1 (by omega), if_pos (by omega), Zk (by omega) (by omega), Z1 (by omega), if_neg hc, Zk (by omega) (by omega)]
  ·refine .inl ⟨f, hf, Z2 ?_⟩
   simp only [Q7.s0, Z3, Zm hlt, h1, ob_s]
   rw [if_pos (by omega), Z1 (by omega), decide_eq_false hf]
   rfl
theorem Z9i {l : List Wr} (hs : ∀ w ∈ l, szW w) : ∃ c : Int, Q7.f l = some c ∧ (c = 0 → l.length ≤ 50 ∧ Rising (labs l)) := by
 unfold Q7.f
 simp only [Z3]
 by_cases h1 : (50 : Int) < ((l.length : Nat) : Int)
 ·rw [if_pos h1]; exact ⟨2, rfl, fun h => by cases h⟩
 ·rw [if_neg h1]
  have h2 := Zhu (l := l) (by omega) hs l.length 0 (by omega)
  rw [show ((0 : Nat) : Int) = 0 from rfl] at h2
  rcases h2 with ⟨f, h3, h4⟩ | ⟨h3, h4⟩
  ·rw [h4]; exact ⟨f, rfl, fun h => absurd h h3⟩
  ·rw [h3]
   refine ⟨0, rfl, fun _ => ⟨by omega, Zd4 fun k hk => ?_⟩⟩
   have hk' : k + 1 < l.length := by unfold labs at hk; simpa using hk
   rw [Z1x (by omega), Z1x hk']
   exact h4 k hk' (by omega)
theorem Z7e {l : List Wr} (hl : l.length ≤ 1000) (s : ByteArray) : ∃ r : Int, Q10.f l s = some r ∧ ((r = -1 ∧ ∀ k : Nat, ∀ h : k < l.length, l[k].1 ≠ s) ∨ ∃ k : Nat, r = k ∧ ∃ h : k < l.length, l[k].1 = s) := by
 have go : ∀ (n k : Nat), l.length - k = n → (∀ j : Nat, ∀ h : j < l.length, j < k → l[j].1 ≠ s) → ∃ r, Q10.l0 s l (l.length : Int) (k : Int) = some r ∧ ((r = .inr () ∧ ∀ j : Nat, ∀ h : j < l.length, l[j].1 ≠ s) ∨ ∃ i : Nat, r = .inl (i : Int) ∧ ∃ h : i < l.length, l[i].1 = s) := by
  intro n
  induction n with
  | zero =>
   intro k hn hb
   refine ⟨.inr (), Z2 ?_, .inl ⟨rfl, fun j h => hb j h (by omega)⟩⟩
   simp only [Q10.s0, Z3]
   rw [if_neg (by omega)]
  | succ n ih =>
   intro k hn hb
   have hlt : k < l.length := by omega
   by_cases e : l[k].1 = s
   ·refine ⟨.inl (k : Int), Z2 ?_, .inr ⟨k, rfl, hlt, e⟩⟩
    simp only [Q10.s0, Z3, Zm hlt]
    rw [if_pos (by omega), Z1 (by omega), if_pos e]
   ·obtain ⟨r, h1, h2⟩ := ih (k + 1) (by omega) (fun j hj hjk => by
     rcases Nat.lt_or_ge j k with h | h
     ·exact hb j hj h
     ·have : j = k := by omega
      subst this
      exact e)
    refine ⟨r, (Z5 ?_).trans h1, h2⟩
    simp only [Q10.s0, Z3, Zm hlt]
    rw [if_pos (by omega), Z1 (by omega), if_neg e, Zk (by omega) (by omega)]
    rfl
 obtain ⟨r, h1, h2⟩ := go l.length 0 (by omega) (fun j _ hj => absurd hj (Nat.not_lt_zero _))
 rw [show ((0 : Nat) : Int) = 0 from rfl] at h1
 unfold Q10.f
 simp only [h1, ob_s]
 rcases h2 with ⟨rfl, h3⟩ | ⟨i, rfl, h3⟩
 ·exact ⟨-1, rfl, .inl ⟨rfl, h3⟩⟩
 ·exact ⟨i, rfl, .inr ⟨i, rfl, h3⟩⟩
def mayB (w : Wr) (s : ByteArray) (t : Int) : Bool := decide (w.2.2.2.1 ≤ t) && (decide (t < w.2.2.2.2) && w.2.2.1.any (fun p => hasP s p))
theorem Zk3 {w : Wr} (hw : w.2.2.1.length ≤ 100000000000) (s : ByteArray) (t : Int) : Q2t.f w s t = some (mayB w s t) := by
 have go : ∀ (n k : Nat), w.2.2.1.length - k = n → ∃ r, Q5.l0 w.2.2.1 s (w.2.2.1.length : Int) (k : Int) = some r ∧ ((r = .inr () ∧ (w.2.2.1.drop k).any (fun p => hasP s p) = false) ∨ ∃ i : Nat, r = .inl (i : Int) ∧ (w.2.2.1.drop k).any (fun p => hasP s p) = true) := by
  intro n
  induction n with
  | zero =>
   intro k hn
   refine ⟨.inr (), Z2 ?_, .inl ⟨rfl, by rw [List.drop_eq_nil_of_le (by omega)]; rfl⟩⟩
   simp only [Q5.s0, Z3]
   rw [if_neg (by omega)]
  | succ n ih =>
   intro k hn
   have hlt : k < w.2.2.1.length := by omega
   rw [List.drop_eq_getElem_cons hlt, List.any_cons]
   cases e : hasP s w.2.2.1[k] with
   | true =>
    refine ⟨.inl (k : Int), Z2 ?_, .inr ⟨k, rfl, rfl⟩⟩
    simp only [Q5.s0, Z3, Zm hlt, Q2s.f, Z2c, e, ob_s, cb_t]
    rw [if_pos (by omega), Z1 (by omega)]
   | false =>
    obtain ⟨r, h1, h2⟩ := ih (k + 1) (by omega)
    refine ⟨r, (Z5 ?_).trans h1, by simpa using h2⟩
    simp only [Q5.s0, Z3, Zm hlt, Q2s.f, Z2c, e, ob_s, cb_f]
    rw [if_pos (by omega), Z1 (by omega), Zk (by omega) (by omega)]
    rfl
 obtain ⟨r, h1, h2⟩ := go _ 0 rfl
 rw [show ((0 : Nat) : Int) = 0 from rfl, List.drop_zero] at *
 have hc : Qk.f w.2.2.1 s = some (w.2.2.1.any (fun p => hasP s p)) := by
  unfold Qk.f Q5.f
  simp only [h1, ob_s]
  rcases h2 with ⟨rfl, h3⟩ | ⟨i, rfl, h3⟩
  ·rw [h3]; rfl
  ·rw [h3]
   simp only [Z8c, ob_s]
   rw [decide_eq_true (by omega)]
 unfold Q2t.f mayB
 simp only [hc, ob_s]
 cases decide (w.2.2.2.1 ≤ t) with
 | false => rfl
 | true =>
  cases decide (t < w.2.2.2.2) with
  | false => rfl
  | true => rfl
theorem mayR_eq {w : Wr} (hw : w.2.2.1.length ≤ 100000000000) (s : ByteArray) (t : Int) : Q1x.f w s t = some (mayB w s t) := by
 have go : ∀ (n k : Nat), w.2.2.1.length - k = n → Q1x.l0 s t w w.2.2.1 (w.2.2.1.length : Int) (k : Int) = some (if (w.2.2.1.drop k).any (fun p => hasP s p) = true then .inl (decide (w.2.2.2.1 ≤ t) && decide (t < w.2.2.2.2)) else .inr ()) := by
  intro n
  induction n with
  | zero =>
   intro k hn
   rw [List.drop_eq_nil_of_le (by omega)]
   refine Z2 ?_
   simp only [Q1x.s0, Z3]
   rw [if_neg (by omega)]
   rfl
  | succ n ih =>
   intro k hn
   have hlt : k < w.2.2.1.length := by omega
   rw [List.drop_eq_getElem_cons hlt, List.any_cons]
   cases e : hasP s w.2.2.1[k] with
   | true =>
    refine Z2 ?_
    simp only [Q1x.s0, Z3, Zm hlt, Z2c, e, ob_s, cb_t]
    rw [if_pos (by omega), Z1 (by omega)]
    by_cases h : w.2.2.2.1 ≤ t
    ·rw [if_pos h, decide_eq_true h]; rfl
    ·rw [if_neg h, decide_eq_false h]; rfl
   | false =>
    rw [Bool.false_or]
    refine (Z5 ?_).trans (ih (k + 1) (by omega))
    simp only [Q1x.s0, Z3, Zm hlt, Z2c, e, ob_s, cb_f]
    rw [if_pos (by omega), Z1 (by omega), Zk (by omega) (by omega)]
    rfl
 have h1 := go _ 0 rfl
 rw [show ((0 : Nat) : Int) = 0 from rfl, List.drop_zero] at h1
 unfold Q1x.f mayB
 simp only [h1, ob_s]
 cases w.2.2.1.any (fun p => hasP s p) with
 | true => simp only [if_true, Z8c, Bool.and_true]
 | false => simp only [Bool.false_eq_true, if_false, Z2x, Bool.and_false]
end Go.Proofs.YtplgphblmeceoaaGreatDoor
set_option linter.unusedVariables false
set_option linter.unusedSimpArgs false
namespace Go.Proofs.YtplgphblmeceoaaGreatDoor
open Go Go.Lib Go.Proofs.YtplgphblmeceoaaGreatDoor.Eng
theorem nq_same {β : Type} {c : Prop} {a : Option β} : nq c a a = a := by
 unfold nq
 split
 ·rfl
 ·cases a <;> simp
theorem Ze5 {l : List ByteArray} (h : l.length * 16 ≤ 140737488355328) : Qz.f l = some l := by
 unfold Qz.f
 by_cases he : l = []
 ·subst he
  rw [Z1 (by simp)]
  exact nq_same
 ·unfold nq
  rw [if_pos he, Z1 (by simp; omega)]
  rfl
theorem Zk9 {l : List ByteArray} (hl : l.length ≤ 1000000000000) : Q8.f l l = some true := by
 have go : ∀ (n k : Nat), l.length - k = n → Q8.l0 l l (l.length : Int) (k : Int) = some (.inr ()) := by
  intro n
  induction n with
  | zero =>
   intro k hn
   refine Z2 ?_
   simp only [Q8.s0, Z3]
   rw [if_neg (by omega)]
  | succ n ih =>
   intro k hn
   have hlt : k < l.length := by omega
   refine (Z5 ?_).trans (ih (k + 1) (by omega))
   simp only [Q8.s0, Z3, Zm hlt, Z1i, if_true]
   rw [if_pos (by omega), Z1 (by omega), Z1 (by omega), Zk (by omega) (by omega)]
   rfl
 have h := go l.length 0 (by omega)
 rw [show ((0 : Nat) : Int) = 0 from rfl] at h
 unfold Q8.f
 simp only [Z1i, Z3, if_true, h, ob_s, Z2x]
theorem copy_eq {l : List Wr} (hl : l.length ≤ 100000000000) (hn : ∀ w ∈ l, w.2.2.1.length ≤ 100000000000) : Qr.f l = some l := by
 have go : ∀ (n k : Nat) (o : List Wr), l.length - k = n → k ≤ l.length → o.length = k → Qr.l0 l (l.length : Int) (k : Int) o = some (o ++ l.drop k) := by
  intro n
  induction n with
  | zero =>
   intro k o hn hk ho
   rw [List.drop_eq_nil_of_le (by omega), List.append_nil]
   refine Z2 ?_
   simp only [Qr.s0, Z3]
   rw [if_neg (by omega)]
  | succ n ih =>
   intro k o hn' hk ho
   have hlt : k < l.length := by omega
   have hw := hn _ (List.getElem_mem hlt)
   have h2 := ih (k + 1) (o ++ [l[k]]) (by omega) (by omega) (by simp [ho])
   rw [List.append_assoc, List.singleton_append, ← List.drop_eq_getElem_cons hlt] at h2
   refine (Z5 ?_).trans h2
   simp only [Qr.s0, Z3, Zm hlt, Ze5 (l := l[k].2.2.1) (by omega), ob_s]
   rw [if_pos (by omega), Z1 (by omega), Z1 (by simp only [List.length_cons, List.length_nil]; omega), Zk (by omega) (by omega)]
   rfl
 unfold Qr.f
 have h := go l.length 0 [] (by omega) (by omega) rfl
 rw [List.drop_zero, List.nil_append, show ((0 : Nat) : Int) = 0 from rfl] at h
 simp only [h, ob_s]
theorem same_eq {l : List Wr} (hl : l.length ≤ 100000000000) (hn : ∀ w ∈ l, w.2.2.1.length ≤ 100000000000) : Qs.f l l = some true := by
 have go : ∀ (n k : Nat), l.length - k = n → Qs.l0 l l (l.length : Int) (k : Int) = some (.inr ()) := by
  intro n
  induction n with
  | zero =>
   intro k hn'
   refine Z2 ?_
   simp only [Qs.s0, Z3]
   rw [if_neg (by omega)]
  | succ n ih =>
   intro k hn'
   have hlt : k < l.length := by omega
   have hw := hn _ (List.getElem_mem hlt)
   have c0 : 0 ≤ (k : Int) ∧ (k : Int) < (l.length : Int) := by omega
   have c1 : InR ((k : Int) + 1) := ⟨by omega, by omega⟩
   refine (Z5 ?_).trans (ih (k + 1) (by omega))
   simp only [Qs.s0, Z3, Zm hlt, Z1 c0, Z1 c1, if_pos c0.2, Z1i, if_true, Zk9 (l := l[k].2.2.1) (by omega), ob_s, cb_t]
   rfl
 have h := go l.length 0 (by omega)
 rw [show ((0 : Nat) : Int) = 0 from rfl] at h
 unfold Qs.f
 simp only [Z1i, Z3, if_true, h, ob_s, Z2x]
theorem Zht {β : Type} {c : Prop} [h : Decidable c] {a : Option β} : ck c a = if c then a else none := by
 by_cases hc : c
 ·rw [Z1 hc, if_pos hc]
 ·rw [Zcc hc, if_neg hc]
local instance (x : Int) : Decidable (InR x) := inferInstanceAs (Decidable (_ ∧ _))
theorem Z8z {s : ByteArray} (hs : s.size ≤ 100000000000) (h : Lib.countByte s.data.toList 47 = 0) : Z13 s = [s] := by
 have h1 : Q1v.f s Q35 = some [s] := by
  have hcnt : Q31.f s Q35 = some 0 := by
   unfold Q31.f
   rw [Z1 (by rfl)]
   show some ((Lib.countByte s.data.toList 47 : Nat) : Int) = _
   rw [h]; rfl
  have l : Qp.l0 Q35 0 (1 - 1) s 0 (List.replicate 1 ByteArray.empty) = some (s, 0, List.replicate 1 ByteArray.empty) := Z2 (by rfl)
  have e : ((min (0 + 1) (((s.size : Nat) : Int) + 1) : Int)) = 1 := by omega
  have e1 : Int.toNat 1 = 1 := rfl
  unfold Q1v.f Qp.f
  simp only [hcnt, ob_s, e, e1, l]
  rw [show decide ((-1 : Int) = 0) = false from rfl, cb_f, show decide (Q35 = bs_) = false from rfl, cb_f, show decide ((-1 : Int) < 0) = true from rfl, cb_t, Zk (by omega) (by omega), Zk (by omega) (by omega), Z1 (by omega), Zk (by omega) (by omega)]
  simp only [Zht]
  rfl
 unfold Z13
 rw [h1]; rfl
abbrev W1 : Wr := (Q36, (Q39, ([Q2p], (0, 5))))
theorem writer1 : Qh.f W1 = some 0 := by
 have l : Qh.l0 W1 [Q2p] 1 0 = some (.inr ()) := by
  refine (Z5 (x' := 1) ?_).trans (Z2 (by rfl))
  have e : rd ByteArray.empty [Q2p] 0 = Q2p := rfl
  simp only [Qh.s0, e, Z2c, Z4f, ob_s, show hasP Q2p Q1f = true from by decide, show Z3z Q2p = true from by decide, Zht]
  rfl
 have s1 : Q25.f Q39 = some true := by
  unfold Q25.f
  rw [Z4f, show Z3z Q39 = true from by decide]
  rfl
 unfold Qh.f
 simp only [Z34, show Z6v Q36 = true from by decide, s1, ob_s, Z1n]
 show cb _ _ (cb _ _ (cb _ _ (ob (Qh.l0 W1 [Q2p] 1 0) _))) = _
 rw [l]
 rfl
theorem check1 : Q7.f [W1] = some 0 := by
 have l : Q7.l0 [W1] [W1] 1 0 = some (.inr ()) := by
  refine (Z5 (x' := 1) ?_).trans (Z2 (by rfl))
  have e : rd (ByteArray.empty, (ByteArray.empty, (([] : List ByteArray), ((0 : Int), (0 : Int))))) [W1] 0 = W1 := rfl
  simp only [Q7.s0, e, writer1, ob_s, Zht]
  rfl
 unfold Q7.f
 show cb _ _ (ob (Q7.l0 [W1] [W1] 1 0) _) = _
 rw [l]
 rfl
def Q3b : ByteArray := ⟨#[97, 112, 112, 108, 101]⟩
def Q3c : ByteArray := ⟨#[120]⟩
theorem whole1 : Q1s.f Q1l = some true := by
 obtain ⟨b, h1, h2⟩ := Z7f (s := Q1l) (by decide)
 have : b = true := h2.2 ⟨Q3b, Q3c, rfl, by decide, by
  unfold labF Z1j
  rw [Z8z (s := Q3b) (by decide) (by decide), Z8z (s := Q3c) (by decide) (by decide)]
  rfl⟩
 rw [h1, this]
theorem may1 (t : Int) (h0 : 0 ≤ t) (h1 : t ≤ 1000000000) : Q2u.f [W1] Q36 Q1l t = some (mayB W1 Q1l t, 0) := by
 have hr : Rising (labs [W1]) := fun i j h h' => by
  have : j < 1 := h
  omega
 obtain ⟨r, r1, r2⟩ := Zde (g := [W1]) (by decide) hr Q36
 have hr2 : r = (W1, true) := by
  rcases r2 with ⟨_, h⟩ | ⟨k, hk, e, _⟩
  ·exact absurd rfl (h 0 (by decide))
  ·have : k = 0 := by simp at hk; exact hk
   subst this
   exact e
 unfold Q2u.f
 simp only [check1, ob_s, Z34, show Z6v Q36 = true from by decide, whole1, Z1n, decide_eq_true (show 0 ≤ t ∧ t ≤ 1000000000 from ⟨h0, h1⟩), r1, hr2, Zk3 (w := W1) (by decide)]
 rfl
theorem awake11 : Q2r.f = some true := by
 have m1 : mayB W1 Q1l 4 = true := by decide
 have m2 : mayB W1 Q1l 5 = false := by decide
 have a1 := may1 4 (by decide) (by decide)
 have a2 := may1 5 (by decide) (by decide)
 rw [m1] at a1
 rw [m2] at a2
 unfold Q2r.f
 show ob (Q2u.f [W1] Q36 Q1l 4) _ = _
 rw [a1, ob_s]
 show ob (Q2u.f [W1] Q36 Q1l 5) _ = _
 rw [a2, ob_s]
 rfl
end Go.Proofs.YtplgphblmeceoaaGreatDoor
set_option linter.unusedVariables false
set_option linter.unusedSimpArgs false
namespace Go.Proofs.YtplgphblmeceoaaGreatDoor
open Go Go.Lib Go.Proofs.YtplgphblmeceoaaGreatDoor.Eng
abbrev Cl := ByteArray × (ByteArray × (ByteArray × (ByteArray × (Int × ((List ByteArray) × ByteArray)))))
def szC (c : Cl) : Prop := c.2.1.size ≤ BIG
def szR (c : Cl) : Prop := c.2.1.size ≤ 100000000000
theorem szR.toC {c : Cl} (h : szR c) : szC c := Nat.le_trans h (by decide)
abbrev hexCs : ByteArray := Qi
def digC (c : UInt8) : Bool := decide (48 ≤ c.toNat ∧ c.toNat ≤ 57) || decide (97 ≤ c.toNat ∧ c.toNat ≤ 102)
theorem digC_eq (c : UInt8) : hexCs.data.toList.contains c = digC c := by
 have h : ((List.range 256).all fun n => hexCs.data.toList.contains (UInt8.ofNat n) == digC (UInt8.ofNat n)) = true := by decide +kernel
 have := List.all_eq_true.1 h c.toNat (List.mem_range.2 c.toNat_lt)
 simpa using this
def digB (s : ByteArray) : Bool := decide (s.size = 16) && s.data.toList.all digC
theorem Z2e (s : ByteArray) : Q1q.f s = some (digB s) := by
 unfold Q1q.f digB
 simp only [Z3]
 by_cases h : s.size = 16
 ·rw [if_pos (by omega)]
  unfold Q2n.f
  rw [Z1 ⟨by omega, by decide, by decide +kernel⟩, ob_s]
  congr 1
  rw [decide_eq_true h, Bool.true_and]
  have e : (⟨(trimS s.data.toList hexCs.data.toList).toArray⟩ = bs_) ↔ s.data.toList.all digC = true := by
   rw [show (s.data.toList.all digC = true) ↔ (s.data.toList.all (fun c => hexCs.data.toList.contains c) = true) by simp only [digC_eq], ← Zdo]
   constructor
   ·intro h
    have := congrArg (fun b : ByteArray => b.data.toList) h
    simpa [bs_] using this
   ·intro h
    rw [h]; rfl
  cases hh : s.data.toList.all digC with
  | true => exact decide_eq_true (e.2 hh)
  | false => exact decide_eq_false (fun h => by rw [e.1 h] at hh; cases hh)
 ·rw [if_neg (by omega), decide_eq_false h]; rfl
theorem Zfc (s : ByteArray) : Q1o.f s = Q1q.f s := rfl
theorem Z43 {s : ByteArray} (h : digB s = true) : s.size = 16 := by
 unfold digB at h
 simp only [Bool.and_eq_true, decide_eq_true_eq] at h
 exact h.1
theorem Zee {s : ByteArray} (h : Z6v s = true) : s.size ≤ 40 := by
 unfold Z6v at h
 split at h
 ·rename_i h1; exact h1.2
 ·cases h
theorem Zif {c : Cl} (hn : c.2.2.2.2.2.1.length ≤ 50) : ∀ (n k : Nat), c.2.2.2.2.2.1.length - k = n → ∃ r, Qf.l0 c c.2.2.2.2.2.1 (c.2.2.2.2.2.1.length : Int) (k : Int) = some r ∧ ((r = .inr () ∧ ∀ j : Nat, ∀ h : j < c.2.2.2.2.2.1.length, k ≤ j → digB c.2.2.2.2.2.1[j] = true) ∨ ∃ f : Int, f ≠ 0 ∧ r = .inl f) := by
 intro n
 induction n with
 | zero =>
  intro k hk
  refine ⟨.inr (), Z2 ?_, .inl ⟨rfl, fun j h1 h2 => by omega⟩⟩
  simp only [Qf.s0, Z3]
  rw [if_neg (by omega)]
 | succ n ih =>
  intro k hk
  have hlt : k < c.2.2.2.2.2.1.length := by omega
  obtain ⟨r, h1, h2⟩ := ih (k + 1) (by omega)
  have e : ((k : Int) + 1) = ((k + 1 : Nat) : Int) := by omega
  by_cases hd : digB c.2.2.2.2.2.1[k] = true
  ·have next : Qf.s0 c c.2.2.2.2.2.1 (c.2.2.2.2.2.1.length : Int) (k : Int) = some (.inl ((k + 1 : Nat) : Int)) ∨ Qf.s0 c c.2.2.2.2.2.1 (c.2.2.2.2.2.1.length : Int) (k : Int) = some (.inr (.inl 8)) := by
    simp only [Qf.s0, Z3]
    rw [if_pos (by omega), Z1 ⟨by omega, by omega⟩, Zm hlt]
    simp only [Z2e, hd, ob_s, Bool.not_true, cb_f]
    by_cases h0 : 0 < k
    ·rw [if_pos (by omega), Zk (by omega) (by omega), Z1 ⟨by omega, by omega⟩]
     cases Z3v c.2.2.2.2.2.1[k] (rd ByteArray.empty c.2.2.2.2.2.1 ((k : Int) - 1)) || decide (c.2.2.2.2.2.1[k] = rd ByteArray.empty c.2.2.2.2.2.1 ((k : Int) - 1)) with
     | true => exact .inr rfl
     | false => rw [cb_f, Zk (by omega) (by omega), e]; exact .inl rfl
    ·rw [if_neg (by omega), Zk (by omega) (by omega), e]; exact .inl rfl
   rcases next with hs | hs
   ·refine ⟨r, (Z5 hs).trans h1, ?_⟩
    rcases h2 with ⟨h2, h3⟩ | h2
    ·refine .inl ⟨h2, fun j hj hkj => ?_⟩
     rcases Nat.eq_or_lt_of_le hkj with rfl | h4
     ·exact hd
     ·exact h3 j hj h4
    ·exact .inr h2
   ·exact ⟨.inl 8, Z2 hs, .inr ⟨8, by decide, rfl⟩⟩
  ·refine ⟨.inl 3, Z2 ?_, .inr ⟨3, by decide, rfl⟩⟩
   simp only [Qf.s0, Z3]
   rw [if_pos (by omega), Z1 ⟨by omega, by omega⟩, Zm hlt]
   simp only [Z2e, Bool.not_eq_true _ ▸ hd, ob_s]
   rfl
structure OkC (c : Cl) : Prop where
 key : digB c.1 = true
 label : c.2.1.size ≤ 403
 whole : Q1s.f c.2.1 = some true
 result : digB c.2.2.1 = true
 writer : Z6v c.2.2.2.1 = true
 at0 : 0 ≤ c.2.2.2.2.1
 at1 : c.2.2.2.2.1 ≤ 1000000000
 many : c.2.2.2.2.2.1.length ≤ 50
 uses : ∀ y ∈ c.2.2.2.2.2.1, y.size = 16
 sign : c.2.2.2.2.2.2.size ≤ 16
theorem IsLab.size {s : ByteArray} (h : IsLab s) : s.size ≤ 403 := by
 obtain ⟨x, y, h1, h2, h3⟩ := h
 have hp : ∀ z : ByteArray, Z1j z = true → z.size ≤ 200 := fun z hz => by
  unfold Z1j at hz
  split at hz
  ·rename_i h; exact h.2
  ·cases hz
 unfold labF at h3
 split at h3
 ·rename_i h4
  have hx : x.size ≤ 200 := by
   rcases h4.1 with h5 | h5
   ·have h5 : x = bs_ := h5
    rw [h5]; decide
   ·exact hp _ h5
  have hy := hp _ h4.2
  have hl := congrArg List.length h1
  simp only [List.length_append, List.length_cons, List.length_nil] at hl
  rw [← Z8, ← Z8, ← Z8] at hl
  have hx : ByteArray.size x ≤ 200 := hx
  have hy : ByteArray.size y ≤ 200 := hy
  omega
 ·cases h3
theorem Zkd {c : Cl} (hs : szR c) : Qf.f c = Qv.f c := by
 obtain ⟨hl, b, hb⟩ := Zj8 (s := c.2.1) hs
 unfold Qf.f Qv.f
 rw [hl, Z34, Z9a]
 rfl
theorem Zhv {c : Cl} (hs : szC c) : ∃ f : Int, Qf.f c = some f ∧ (f = 0 → OkC c) := by
 obtain ⟨b, hb, hbl⟩ := Z7f (s := c.2.1) hs
 unfold Qf.f
 simp only [Z2e, Z34, Z1n, hb, ob_s, Z1i]
 cases g1 : digB c.1 with
 | false => exact ⟨3, rfl, fun h => by cases h⟩
 | true =>
  cases b with
  | false => exact ⟨10, rfl, fun h => by cases h⟩
  | true =>
   have gl := IsLab.size (hbl.1 rfl)
   cases g3 : digB c.2.2.1 with
   | false => exact ⟨3, rfl, fun h => by cases h⟩
   | true =>
    cases g4 : Z6v c.2.2.2.1 with
    | false => exact ⟨5, rfl, fun h => by cases h⟩
    | true =>
     simp only [cb_t, Z3]
     by_cases g5 : (0 : Int) ≤ c.2.2.2.2.1 ∧ c.2.2.2.2.1 ≤ 1000000000
     ·rw [if_pos g5]
      by_cases g6 : 50 < c.2.2.2.2.2.1.length
      ·rw [if_pos (by omega)]
       exact ⟨2, rfl, fun h => by cases h⟩
      ·rw [if_neg (by omega)]
       obtain ⟨r, h8, h9⟩ := Zif (c := c) (by omega) _ 0 rfl
       rw [show ((0 : Nat) : Int) = 0 from rfl] at h8
       rw [h8, ob_s]
       rcases h9 with ⟨rfl, h9⟩ | ⟨f, hf, rfl⟩
       ·rw [Z2x]
        by_cases g7 : c.2.2.2.2.2.2 = bs_
        ·rw [if_pos g7]
         refine ⟨0, rfl, fun _ => ⟨g1, gl, hb, g3, g4, g5.1, g5.2, by omega, fun y hy => ?_, by rw [g7]; decide⟩⟩
         obtain ⟨j, hj, rfl⟩ := List.getElem_of_mem hy
         exact Z43 (h9 j hj (Nat.zero_le _))
        ·rw [if_neg g7]
         cases g8 : digB c.2.2.2.2.2.2 with
         | false => exact ⟨3, rfl, fun h => by cases h⟩
         | true =>
          refine ⟨0, rfl, fun _ => ⟨g1, gl, hb, g3, g4, g5.1, g5.2, by omega, fun y hy => ?_, by rw [Z43 g8]; decide⟩⟩
          obtain ⟨j, hj, rfl⟩ := List.getElem_of_mem hy
          exact Z43 (h9 j hj (Nat.zero_le _))
       ·rw [Z8c]
        exact ⟨f, rfl, fun h => absurd h hf⟩
     ·rw [if_neg g5]
      exact ⟨1, rfl, fun h => by cases h⟩
theorem join_le (n : Nat) : ∀ xs : List ByteArray, (∀ x ∈ xs, x.size ≤ n) → (Zby xs Q37).size ≤ (n + 1) * xs.length
 | [], _ => Nat.le_refl _
 | x :: r, h => by
  have hs : (Zby (x :: r) Q37).size = x.size + (r.length + Lib.lens (r.map (·.data.toList))) := by
   have e : (Zby (x :: r) Q37).size = (Lib.join ((x :: r).map (·.data.toList)) [32]).length := List.size_toArray ..
   rw [e, List.map_cons, Lib.join_cons, List.length_append, Lib.joinTail_length, ← Z8]
   simp
  have hr : ∀ l : List ByteArray, (∀ y ∈ l, y.size ≤ n) → Lib.lens (l.map (·.data.toList)) ≤ n * l.length := by
   intro l
   induction l with
   | nil => intro _; exact Nat.le_refl _
   | cons y l ih =>
    intro h
    have h1 := ih (fun z hz => h z (List.mem_cons_of_mem _ hz))
    have h2 := h y (List.mem_cons_self ..)
    rw [Z8] at h2
    simp only [Lib.lens, List.map_cons, List.sum_cons, List.length_cons, Nat.mul_succ] at h1 ⊢
    omega
  have h1 := hr r (fun z hz => h z (List.mem_cons_of_mem _ hz))
  have h2 := h x (List.mem_cons_self ..)
  rw [hs, List.length_cons, Nat.mul_succ, Nat.add_mul]
  omega
noncomputable def Z4p (c : Cl) : ByteArray := Zby ([c.1, c.2.1, c.2.2.1, c.2.2.2.1, Zbz c.2.2.2.2.1] ++ c.2.2.2.2.2.1) Q37
theorem Zgv {n : Int} (h0 : -9223372036854775808 ≤ n) (h1 : n ≤ 9223372036854775807) : (Zbz n).size ≤ 21 := by
 have e : (Zbz n).size = (Lib.itoa n).length := List.size_toArray ..
 rw [e]; exact Lib.itoa_length_le n h0 h1
theorem Zjr {c : Cl} (hk : OkC c) : Q2m.f c = some (Z4p c) ∧ (Z4p c).size ≤ 1000000 := by
 have ha := hk.at0; have hb := hk.at1; have hm := hk.many
 have hi := Zgv (n := c.2.2.2.2.1) (by omega) (by omega)
 have hall : ∀ x ∈ [c.1, c.2.1, c.2.2.1, c.2.2.2.1, Zbz c.2.2.2.2.1] ++ c.2.2.2.2.2.1, x.size ≤ 403 := fun x hx => by
  rcases List.mem_append.1 hx with hx | hx
  ·simp only [List.mem_cons, List.not_mem_nil, or_false] at hx
   rcases hx with rfl | rfl | rfl | rfl | rfl
   ·have := Z43 hk.key; omega
   ·exact hk.label
   ·have := Z43 hk.result; omega
   ·have := Zee hk.writer; omega
   ·omega
  ·have := hk.uses x hx; omega
 have hle := join_le 403 _ hall
 have hlen : ([c.1, c.2.1, c.2.2.1, c.2.2.2.1, Zbz c.2.2.2.2.1] ++ c.2.2.2.2.2.1).length = 5 + c.2.2.2.2.2.1.length := by simp; omega
 have hsz : (Z4p c).size ≤ 1000000 := by
  unfold Z4p
  refine Nat.le_trans hle ?_
  rw [hlen]
  omega
 refine ⟨?_, hsz⟩
 unfold Q2m.f Q30.f
 rw [Z1 ⟨by omega, by omega⟩, ob_s, Z1 (by simp; omega)]
 unfold Q2z.f
 rw [Z1 ⟨by show List.length ([c.1, c.2.1, c.2.2.1, c.2.2.2.1, Zbz c.2.2.2.2.1] ++ c.2.2.2.2.2.1) ≤ _; omega, Nat.le_trans (show (Zby ([c.1, c.2.1, c.2.2.1, c.2.2.2.1, Zbz c.2.2.2.2.1] ++ c.2.2.2.2.2.1) Q37).size ≤ _ from hsz) (by decide)⟩, ob_s]
 rfl
theorem Zhs (c : Cl) : Q2x.f c = Q2m.f c := rfl
end Go.Proofs.YtplgphblmeceoaaGreatDoor
set_option linter.unusedVariables false
set_option linter.unusedSimpArgs false
namespace Go.Proofs.YtplgphblmeceoaaGreatDoor
open Go Go.Lib Go.Proofs.YtplgphblmeceoaaGreatDoor.Eng
theorem wrapU (n : Int) : IntKind.u64.wrap n = n % 18446744073709551616 := by
 simp only [IntKind.wrap, IntKind.bits, IntKind.signed, Bool.false_and, Bool.false_eq_true, if_false]
 have e : (2 : Int) ^ 64 = 18446744073709551616 := by decide
 rw [e]
theorem Zib {n : Int} (h0 : 0 ≤ n) (h1 : n < 18446744073709551616) : IntKind.u64.wrap n = n := by rw [wrapU]; omega
def hstep (h : Int) (c : UInt8) : Int := IntKind.u64.wrap (IntKind.u64.wrap ((BitVec.toNat (BitVec.ofInt (IntKind.bits .u64) h ^^^ BitVec.ofInt (IntKind.bits .u64) (IntKind.u64.wrap ((UInt8.toNat c : Nat) : Int))) : Nat) : Int) * (1099511628211 : Int))
def Zh5 (h : Int) : List UInt8 → Int
 | [] => h
 | c :: r => Zh5 (hstep h c) r
theorem hashL_in : ∀ (l : List UInt8) (h : Int), 0 ≤ h ∧ h < 18446744073709551616 → 0 ≤ Zh5 h l ∧ Zh5 h l < 18446744073709551616
 | [], h, hh => hh
 | c :: r, h, _ => hashL_in r _ (by unfold hstep; rw [wrapU]; omega)
theorem Zc3 {l : List UInt8} (hl : l.length ≤ BIG) : ∀ (n k : Nat) (h : Int), l.length - k = n → Qq.l0 l (l.length : Int) h (k : Int) = some (Zh5 h (l.drop k)) := by
 have hB : BIG = 140737488355328 := rfl
 intro n
 induction n with
 | zero =>
  intro k h hk
  refine Z2 ?_
  simp only [Qq.s0, Z3]
  rw [if_neg (by omega), List.drop_eq_nil_of_le (by omega)]
  rfl
 | succ n ih =>
  intro k h hk
  have hlt : k < l.length := by omega
  have e : ((k : Int) + 1) = ((k + 1 : Nat) : Int) := by omega
  rw [List.drop_eq_getElem_cons hlt]
  refine (Z5 ?_).trans (ih (k + 1) (hstep h l[k]) (by omega))
  simp only [Qq.s0, Z3]
  rw [if_pos (by omega), Z1 ⟨by omega, by omega⟩, Zk (by omega) (by omega), Zm hlt, e]
  rfl
theorem Zf8 (l : List UInt8) (h k : Int) : Qx.l0 l h k = Qq.l0 l (l.length : Int) h k := rfl
def hexD (R k : Nat) : UInt8 := bt hexCs (((R / 16 ^ k % 16 : Nat)) : Int)
def digs (R : Nat) : Nat → List UInt8
 | 0 => []
 | k + 1 => hexD R k :: digs R k
theorem Zg1 {α : Type} (a b : α) (t : List α) : ∀ m : Nat, (List.replicate (m + 1) a ++ t).set m b = List.replicate m a ++ b :: t
 | 0 => rfl
 | m + 1 => by
  rw [List.replicate_succ, List.cons_append, List.set_cons_succ, Zg1 a b t m, List.replicate_succ, List.cons_append]
theorem and15 (x : Nat) (h : x < 18446744073709551616) : IntKind.u64.wrap ((BitVec.toNat (BitVec.ofInt (IntKind.bits .u64) ((x : Nat) : Int) &&& BitVec.ofInt (IntKind.bits .u64) (15 : Int)) : Nat) : Int) = ((x % 16 : Nat) : Int) := by
 have e1 : BitVec.toNat (BitVec.ofInt (IntKind.bits .u64) ((x : Nat) : Int)) = x := by
  rw [BitVec.toNat_ofInt]
  simp only [IntKind.bits]
  omega
 have e2 : BitVec.toNat (BitVec.ofInt (IntKind.bits .u64) (15 : Int)) = 2 ^ 4 - 1 := by decide
 rw [BitVec.toNat_and, e1, e2, Nat.and_two_pow_sub_one_eq_mod, wrapU]
 omega
theorem Zjc {R : Nat} (hR : R < 18446744073709551616) : ∀ (n i : Nat), 16 - i = n → i ≤ 16 → Qq.l1 16 (((R / 16 ^ i : Nat)) : Int) (i : Int) (List.replicate (16 - i) 0 ++ digs R i) = some (digs R 16) := by
 intro n
 induction n with
 | zero =>
  intro i hn hi
  obtain rfl : i = 16 := by omega
  refine Z2 ?_
  simp only [Qq.s1, Z3]
  rw [if_neg (by decide)]
  simp
 | succ n ih =>
  intro i hn hi
  have hlen : (List.replicate (16 - i) (0 : UInt8) ++ digs R i).length = 16 := by
   have : ∀ k, (digs R k).length = k := fun k => by induction k with | zero => rfl | succ k ih => simp [digs, ih]
   rw [List.length_append, this, List.length_replicate]; omega
  have hx : R / 16 ^ i < 18446744073709551616 := Nat.lt_of_le_of_lt (Nat.div_le_self _ _) hR
  refine (Z5 ?_).trans (ih (i + 1) (by omega) (by omega))
  have hsz : ((ByteArray.size Qi : Nat) : Int) = 16 := by decide
  have e1 : (Int.toNat ((15 : Int) - (i : Int))) = 15 - i := by omega
  simp only [Qq.s1, Z3, and15 _ hx, hsz, hlen, e1]
  rw [if_pos (by omega), Zk (by omega) (by omega), Z1 ⟨by omega, by omega⟩, Z1 ⟨by omega, by omega⟩, Z1 (by omega), Zk (by omega) (by omega)]
  congr 3
  ·rw [Int.fdiv_eq_ediv_of_nonneg _ (by decide)]
   have e2 : (2 : Int) ^ min (Int.toNat (4 : Int)) (IntKind.bits .u64) = ((16 : Nat) : Int) := by decide
   rw [e2, ← Int.natCast_ediv, Nat.div_div_eq_div_mul, Nat.pow_succ]
  ·congr 1
   have e3 : 16 - i = (15 - i) + 1 := by omega
   rw [e3, Zg1, show 16 - (i + 1) = 15 - i by omega]
   rfl
theorem hexR : ∀ d : Nat, d < 16 → (ByteArray.extract Qi d (d + 1)).data.toList = [bt hexCs (d : Int)] ∧ (ByteArray.extract Qi d (d + 1)).size = 1 := by decide +kernel
theorem Zh3 {R : Nat} (hR : R < 18446744073709551616) : ∀ (n : Nat) (s : ByteArray), n ≤ 16 → s.size ≤ 100 - n → Qx.l1 ((R : Nat) : Int) s (4 * (n : Int) - 4) = some (s ++ ⟨(digs R n).toArray⟩) := by
 intro n
 induction n with
 | zero =>
  intro s hn hs
  refine Z2 ?_
  simp only [Qx.s1, Z3]
  rw [if_neg (by decide)]
  have e : s ++ (⟨(digs R 0).toArray⟩ : ByteArray) = s := Zar (by rw [Z8u]; simp [digs])
  rw [e]
 | succ n ih =>
  intro s hn hs
  have hsz : ((ByteArray.size Qi : Nat) : Int) = 16 := by decide
  have e0 : (4 * ((n + 1 : Nat) : Int) - 4) = ((4 * n : Nat) : Int) := by omega
  have e1 : Int.tmod (Int.fdiv ((R : Nat) : Int) (2 ^ min (Int.toNat ((4 * n : Nat) : Int)) (IntKind.bits .u64))) 16 = ((R / 16 ^ n % 16 : Nat) : Int) := by
   have e2 : min (Int.toNat ((4 * n : Nat) : Int)) (IntKind.bits .u64) = 4 * n := by
    show min (Int.toNat ((4 * n : Nat) : Int)) 64 = 4 * n
    omega
   have e3 : (2 : Int) ^ (4 * n) = ((16 ^ n : Nat) : Int) := by
    rw [Int.pow_mul]
    norm_cast
   rw [e2, e3, Int.fdiv_eq_ediv_of_nonneg _ (Int.natCast_nonneg _), ← Int.natCast_ediv, Int.tmod_eq_emod_of_nonneg (Int.natCast_nonneg _)]
   exact (Int.natCast_emod _ _).symm
  obtain ⟨h1, h2⟩ := hexR (R / 16 ^ n % 16) (Nat.mod_lt _ (by decide))
  have hd : R / 16 ^ n % 16 < 16 := Nat.mod_lt _ (by decide)
  rw [e0]
  have e4 : ∀ z : Int, ((4 * n : Nat) : Int) - 4 = 4 * (n : Int) - 4 := fun _ => by omega
  refine (Z5 (x' := (s ++ ByteArray.extract Qi (R / 16 ^ n % 16) (R / 16 ^ n % 16 + 1), 4 * (n : Int) - 4)) ?_).trans ((ih _ (by omega) (by rw [ByteArray.size_append, h2]; omega)).trans ?_)
  ·simp only [Qx.s1, Z3, e1, hsz]
   rw [if_pos (by omega), Z1 (by omega)]
   rw [Zib (n := ((R / 16 ^ n % 16 : Nat) : Int) + 1) (by omega) (by omega)]
   rw [Z1 ⟨by omega, by omega, by omega⟩]
   have e5 : (Int.toNat ((R / 16 ^ n % 16 : Nat) : Int)) = R / 16 ^ n % 16 := by omega
   have e6 : (Int.toNat (((R / 16 ^ n % 16 : Nat) : Int) + 1)) = R / 16 ^ n % 16 + 1 := by omega
   rw [e5, e6, h2, Z1 (by omega), Zk (by omega) (by omega), e4 0]
  ·congr 1
   apply Zar
   rw [Z8u, Z8u, Z8u, h1]
   simp [digs, hexD]
def dgB (l : List UInt8) : ByteArray := ⟨(digs (Zh5 14695981039346656037 l).toNat 16).toArray⟩
theorem Zho {l : List UInt8} (hl : l.length ≤ BIG) : Qq.f l = some (dgB l) := by
 have h := Zc3 hl _ 0 14695981039346656037 rfl
 obtain ⟨h1, h2⟩ := hashL_in l 14695981039346656037 (by decide)
 rw [List.drop_zero, show ((0 : Nat) : Int) = 0 from rfl] at h
 obtain ⟨R, hR⟩ := Int.eq_ofNat_of_zero_le h1
 unfold Qq.f
 simp only [h, ob_s]
 rw [Z1 (by decide)]
 have h3 := Zjc (R := R) (by omega) _ 0 rfl (by decide)
 have e1 : ((List.length (List.replicate (Int.toNat (16 : Int)) (0 : UInt8)) : Nat) : Int) = 16 := by decide
 have e2 : List.replicate (Int.toNat (16 : Int)) (0 : UInt8) = List.replicate (16 - 0) 0 ++ digs R 0 := rfl
 have e3 : (R / 16 ^ 0 : Nat) = R := by simp
 rw [e3] at h3
 rw [e1, e2, hR]
 rw [show (0 : Int) = ((0 : Nat) : Int) from rfl, h3, ob_s]
 unfold dgB
 rw [hR]
 rfl
theorem Zc9 {l : List UInt8} (hl : l.length ≤ BIG) : Qx.f l = some (dgB l) := by
 have h := Zc3 hl _ 0 14695981039346656037 rfl
 obtain ⟨h1, h2⟩ := hashL_in l 14695981039346656037 (by decide)
 rw [List.drop_zero, show ((0 : Nat) : Int) = 0 from rfl] at h
 obtain ⟨R, hR⟩ := Int.eq_ofNat_of_zero_le h1
 unfold Qx.f
 rw [Zf8, h, ob_s, hR]
 have h3 := Zh3 (R := R) (by omega) 16 bs_ (by decide) (by decide)
 rw [show (4 * ((16 : Nat) : Int) - 4) = 60 from rfl] at h3
 rw [h3, ob_s]
 unfold dgB
 rw [hR]
 congr 1
end Go.Proofs.YtplgphblmeceoaaGreatDoor
set_option linter.unusedVariables false
set_option linter.unusedSimpArgs false
namespace Go.Proofs.YtplgphblmeceoaaGreatDoor
open Go Go.Lib Go.Proofs.YtplgphblmeceoaaGreatDoor.Eng
abbrev C0 : Cl := (ByteArray.empty, (ByteArray.empty, (ByteArray.empty, (ByteArray.empty, ((0 : Int), (([] : (List ByteArray)), ByteArray.empty))))))
theorem logStep {l : List Cl} (hs : ∀ c ∈ l, szR c) (x : Int) : Ql.s0 l l (l.length : Int) x = Q11.s0 l l (l.length : Int) x := by
 by_cases h : 0 ≤ x ∧ x < (l.length : Int)
 ·obtain ⟨k, rfl⟩ := Int.eq_ofNat_of_zero_le h.1
  have hk : k < l.length := by omega
  unfold Ql.s0 Q11.s0
  rw [Zm hk]
  simp only [Zkd (hs _ (List.getElem_mem hk))]
 ·unfold Ql.s0 Q11.s0
  rw [Zcc (by omega), Zcc (by omega)]
theorem Zcd {l : List Cl} (hs : ∀ c ∈ l, szR c) : Ql.f l = Q11.f l := by
 unfold Ql.f Q11.f
 have e : Ql.l0 l l (l.length : Int) 0 = Q11.l0 l l (l.length : Int) 0 := by
  unfold Ql.l0 Q11.l0
  congr 1
  funext x
  exact logStep hs x
 simp only [e]
theorem logLoop {l : List Cl} (hl : l.length ≤ 1000) (hs : ∀ c ∈ l, szC c) : ∀ (n k : Nat), l.length - k = n → ∃ r, Ql.l0 l l (l.length : Int) (k : Int) = some r ∧ ((r = .inr () ∧ ∀ j : Nat, ∀ h : j < l.length, k ≤ j → Qf.f l[j] = some 0 ∧ l[j].2.2.2.2.2.2 ≠ bs_ ∧ ∀ h' : 0 < j, (l[j - 1]'(by omega)).2.2.2.2.1 ≤ l[j].2.2.2.2.1) ∨ ∃ f : Int, f ≠ 0 ∧ r = .inl f) := by
 intro n
 induction n with
 | zero =>
  intro k hk
  refine ⟨.inr (), Z2 ?_, .inl ⟨rfl, fun j h1 h2 => by omega⟩⟩
  simp only [Ql.s0, Z3]
  rw [if_neg (by omega)]
 | succ n ih =>
  intro k hk
  have hlt : k < l.length := by omega
  obtain ⟨r, h1, h2⟩ := ih (k + 1) (by omega)
  have e : ((k : Int) + 1) = ((k + 1 : Nat) : Int) := by omega
  obtain ⟨f, hf, hf0⟩ := Zhv (hs _ (List.getElem_mem hlt))
  have step : Ql.s0 l l (l.length : Int) (k : Int) = some (.inr (.inl f)) ∧ f ≠ 0 ∨ Ql.s0 l l (l.length : Int) (k : Int) = some (.inr (.inl 3)) ∨ Ql.s0 l l (l.length : Int) (k : Int) = some (.inr (.inl 8)) ∨ (Ql.s0 l l (l.length : Int) (k : Int) = some (.inl ((k + 1 : Nat) : Int)) ∧ f = 0 ∧ l[k].2.2.2.2.2.2 ≠ bs_ ∧ ∀ h' : 0 < k, (l[k - 1]'(by omega)).2.2.2.2.1 ≤ l[k].2.2.2.2.1) := by
   simp only [Ql.s0, Z3]
   rw [if_pos (by omega), Z1 ⟨by omega, by omega⟩, Zm hlt, hf, ob_s]
   by_cases h0 : f = 0
   ·rw [decide_eq_true h0]
    simp only [Bool.not_true, cb_f]
    by_cases g : l[k].2.2.2.2.2.2 = bs_
    ·rw [if_pos g]; exact .inr (.inl rfl)
    ·rw [if_neg g]
     by_cases h3 : 0 < k
     ·have e2 : ((k : Int) - 1) = ((k - 1 : Nat) : Int) := by omega
      rw [if_pos (by omega), Zk (by omega) (by omega), Z1 ⟨by omega, by omega⟩, e2, Zm (show k - 1 < l.length by omega)]
      by_cases h4 : l[k].2.2.2.2.1 < (l[k - 1]'(by omega)).2.2.2.2.1
      ·rw [if_pos h4]; exact .inr (.inr (.inl rfl))
      ·rw [if_neg h4, Zk (by omega) (by omega), e]
       exact .inr (.inr (.inr ⟨rfl, h0, g, fun _ => by omega⟩))
     ·rw [if_neg (by omega), Zk (by omega) (by omega), e]
      exact .inr (.inr (.inr ⟨rfl, h0, g, fun h => absurd h h3⟩))
   ·rw [decide_eq_false h0]
    exact .inl ⟨rfl, h0⟩
  rcases step with ⟨hx, h0⟩ | hx | hx | ⟨hx, h0, hg, h4⟩
  ·exact ⟨.inl f, Z2 hx, .inr ⟨f, h0, rfl⟩⟩
  ·exact ⟨.inl 3, Z2 hx, .inr ⟨3, by decide, rfl⟩⟩
  ·exact ⟨.inl 8, Z2 hx, .inr ⟨8, by decide, rfl⟩⟩
  ·refine ⟨r, (Z5 hx).trans h1, ?_⟩
   rcases h2 with ⟨h2, h5⟩ | h2
   ·refine .inl ⟨h2, fun j hj hkj => ?_⟩
    rcases Nat.eq_or_lt_of_le hkj with rfl | h6
    ·exact ⟨by rw [hf, h0], hg, h4⟩
    ·exact h5 j hj h6
   ·exact .inr h2
structure OkL (l : List Cl) : Prop where
 len : l.length ≤ 1000
 ok : ∀ c ∈ l, Qf.f c = some 0 ∧ OkC c
 sign : ∀ c ∈ l, c.2.2.2.2.2.2 ≠ bs_
 rise : ∀ j : Nat, ∀ h : j < l.length, ∀ h' : 0 < j, (l[j - 1]'(by omega)).2.2.2.2.1 ≤ l[j].2.2.2.2.1
theorem Zjs {l : List Cl} (hs : ∀ c ∈ l, szC c) : ∃ f : Int, Ql.f l = some f ∧ (f = 0 → OkL l) := by
 unfold Ql.f
 simp only [Z3]
 by_cases h : 1000 < l.length
 ·rw [if_pos (by omega)]; exact ⟨2, rfl, fun h => by cases h⟩
 ·rw [if_neg (by omega)]
  obtain ⟨r, h1, h2⟩ := logLoop (l := l) (by omega) hs _ 0 rfl
  rw [show ((0 : Nat) : Int) = 0 from rfl] at h1
  rw [h1, ob_s]
  rcases h2 with ⟨rfl, h3⟩ | ⟨f, hf, rfl⟩
  ·refine ⟨0, rfl, fun _ => ⟨by omega, fun c hc => ?_, fun c hc => ?_, fun j hj hj0 => (h3 j hj (Nat.zero_le _)).2.2 hj0⟩⟩
   ·obtain ⟨j, hj, rfl⟩ := List.getElem_of_mem hc
    have h4 := (h3 j hj (Nat.zero_le _)).1
    obtain ⟨f, hf, hf0⟩ := Zhv (hs _ hc)
    rw [h4] at hf
    exact ⟨h4, hf0 (Option.some.inj hf).symm⟩
   ·obtain ⟨j, hj, rfl⟩ := List.getElem_of_mem hc
    exact (h3 j hj (Nat.zero_le _)).2.1
  ·exact ⟨f, rfl, fun h => absurd h hf⟩
end Go.Proofs.YtplgphblmeceoaaGreatDoor
set_option linter.unusedVariables false
set_option linter.unusedSimpArgs false
namespace Go.Proofs.YtplgphblmeceoaaGreatDoor
open Go Go.Lib Go.Proofs.YtplgphblmeceoaaGreatDoor.Eng
noncomputable def sigB (s : ByteArray) (c : Cl) : ByteArray := dgB ((((s ++ Q34) ++ Z4p c) ++ Q34) ++ s).data.toList
theorem Zjz {s : ByteArray} (hs : s.size ≤ 1000000000000) {c : Cl} (hk : OkC c) : Q23.f s c = some (sigB s c) ∧ Q2a.f s c = some (sigB s c) := by
 have hB : BIG = 140737488355328 := rfl
 obtain ⟨h1, h2⟩ := Zjr hk
 have e : Q34.size = 1 := rfl
 have s1 : (s ++ Q34).size = s.size + 1 := by rw [ByteArray.size_append, e]
 have s2 : ((s ++ Q34) ++ Z4p c).size = s.size + 1 + (Z4p c).size := by rw [ByteArray.size_append, s1]
 have s3 : (((s ++ Q34) ++ Z4p c) ++ Q34).size = s.size + 2 + (Z4p c).size := by rw [ByteArray.size_append, s2, e]; omega
 have s4 : ((((s ++ Q34) ++ Z4p c) ++ Q34) ++ s).data.toList.length ≤ BIG := by rw [← Z8, ByteArray.size_append, s3]; omega
 constructor
 ·unfold Q23.f
  rw [Z1 (by omega), h1, ob_s, Z1 (by omega), Z1 (by omega)]
  simp only [Zho s4, ob_s]
  rw [Z1 (by omega)]
  rfl
 ·unfold Q2a.f Q2o.f
  rw [Z1 (by omega), Zhs, h1, ob_s, Z1 (by omega), Z1 (by omega)]
  simp only [Zc9 s4, ob_s]
  rw [Z1 (by omega)]
  rfl
abbrev E0 : Cl := (bs_, (bs_, (bs_, (bs_, ((0 : Int), (([] : List ByteArray), bs_))))))
noncomputable def sgn (w : Wr) (c : Cl) : Cl := (c.1, (c.2.1, (c.2.2.1, (c.2.2.2.1, (c.2.2.2.2.1, (c.2.2.2.2.2.1, sigB w.2.1 c))))))
noncomputable def genB (w : Wr) (c : Cl) : Int := if c.2.2.2.2.2.2 = sigB w.2.1 c then (if mayB w c.2.1 c.2.2.2.2.1 = true then 1 else 4) else 2
noncomputable def trust_checkBoth.f (a0 : (List (ByteArray × (ByteArray × ((List ByteArray) × (Int × Int)))))) (a1 : (ByteArray × (ByteArray × (ByteArray × (ByteArray × (Int × ((List ByteArray) × ByteArray))))))) : Option Int :=
  (ob (Q7.f a0) fun r1 => (cb (!decide (r1 = (0 : Int))) (some r1) (ob (Qf.f a1) fun r2 => (some r2))))
noncomputable def ref11_askSigned.f (a0 : (List (ByteArray × (ByteArray × ((List ByteArray) × (Int × Int)))))) (a1 : (ByteArray × (ByteArray × (ByteArray × (ByteArray × (Int × ((List ByteArray) × ByteArray))))))) : Option Int :=
  (ob (Qm.f a0) fun r1 => (cb (!decide (r1 = (0 : Int))) (some r1) (ob (Qv.f a1) fun r2 => (some r2))))
noncomputable def trust_Signed.f (a0 : (List (ByteArray × (ByteArray × ((List ByteArray) × (Int × Int)))))) (a1 : (ByteArray × (ByteArray × (ByteArray × (ByteArray × (Int × ((List ByteArray) × ByteArray))))))) : Option ((ByteArray × (ByteArray × (ByteArray × (ByteArray × (Int × ((List ByteArray) × ByteArray)))))) × Int) :=
  (ob (trust_checkBoth.f a0 a1) fun r1 => (cb (!decide (r1 = (0 : Int))) (some ((bs_, (bs_, (bs_, (bs_, ((0 : Int), (([] : List ByteArray), bs_)))))), r1)) (ob (Q2f.f a0 a1.2.2.2.1) fun r2 => (cb (!r2.2) (some ((bs_, (bs_, (bs_, (bs_, ((0 : Int), (([] : List ByteArray), bs_)))))), (9 : Int))) (ob (Qz.f a1.2.2.2.2.2.1) fun r3 => (ob (Q23.f r2.1.2.1 (a1.1, (a1.2.1, (a1.2.2.1, (a1.2.2.2.1, (a1.2.2.2.2.1, (r3, a1.2.2.2.2.2.2))))))) fun r4 => (some ((a1.1, (a1.2.1, (a1.2.2.1, (a1.2.2.2.1, (a1.2.2.2.2.1, (r3, r4)))))), (0 : Int)))))))))
noncomputable def ref11_Signed.f (a0 : (List (ByteArray × (ByteArray × ((List ByteArray) × (Int × Int)))))) (a1 : (ByteArray × (ByteArray × (ByteArray × (ByteArray × (Int × ((List ByteArray) × ByteArray))))))) : Option ((ByteArray × (ByteArray × (ByteArray × (ByteArray × (Int × ((List ByteArray) × ByteArray)))))) × Int) :=
  (ob (ref11_askSigned.f a0 a1) fun r1 => (cb (!decide (r1 = (0 : Int))) (some ((bs_, (bs_, (bs_, (bs_, ((0 : Int), (([] : List ByteArray), bs_)))))), r1)) (ob (Q10.f a0 a1.2.2.2.1) fun r2 => (cb (decide (r2 < (0 : Int))) (some ((bs_, (bs_, (bs_, (bs_, ((0 : Int), (([] : List ByteArray), bs_)))))), (9 : Int))) (ck (0 ≤ r2 ∧ r2 < ((List.length a0 : Nat) : Int)) (let y3 : ByteArray := (rd (ByteArray.empty, (ByteArray.empty, (([] : (List ByteArray)), ((0 : Int), (0 : Int))))) a0 r2).2.1; (ob (Qz.f a1.2.2.2.2.2.1) fun r4 => (ob (Q2a.f y3 a1) fun r5 => (some ((a1.1, (a1.2.1, (a1.2.2.1, (a1.2.2.2.1, (a1.2.2.2.2.1, (r4, r5)))))), (0 : Int)))))))))))
noncomputable def trust_Genuine.f (a0 : (List (ByteArray × (ByteArray × ((List ByteArray) × (Int × Int)))))) (a1 : (ByteArray × (ByteArray × (ByteArray × (ByteArray × (Int × ((List ByteArray) × ByteArray))))))) : Option (Int × Int) :=
  (ob (trust_checkBoth.f a0 a1) fun r1 => (cb (!decide (r1 = (0 : Int))) (some ((0 : Int), r1)) (ob (Q21.f a0 a1) fun r2 => (some (r2, (0 : Int))))))
noncomputable def ref11_Genuine.f (a0 : (List (ByteArray × (ByteArray × ((List ByteArray) × (Int × Int)))))) (a1 : (ByteArray × (ByteArray × (ByteArray × (ByteArray × (Int × ((List ByteArray) × ByteArray))))))) : Option (Int × Int) :=
  (ob (ref11_askSigned.f a0 a1) fun r1 => (cb (!decide (r1 = (0 : Int))) (some ((0 : Int), r1)) (ob (Q22.f a0 a1) fun r2 => (some (r2, (0 : Int))))))
inductive Both (l : List Wr) (c : Cl) : Prop
 | no (f : Int) (hf : f ≠ 0) (h : trust_checkBoth.f l c = some f)
 | none (h : trust_checkBoth.f l c = some 0) (hc : Qf.f c = some 0) (hk : OkC c) (hl : l.length ≤ 50) (hr : Rising (labs l)) (hn : ∀ k : Nat, ∀ h : k < l.length, l[k].1 ≠ c.2.2.2.1)
 | one (k : Nat) (hkl : k < l.length) (h : trust_checkBoth.f l c = some 0) (hc : Qf.f c = some 0) (hk : OkC c) (hl : l.length ≤ 50) (hr : Rising (labs l)) (he : l[k].1 = c.2.2.2.1)
theorem both_of {l : List Wr} (hs : ∀ w ∈ l, szW w) {c : Cl} (hc : szC c) : Both l c := by
 obtain ⟨f, h1, h2⟩ := Z9i hs
 obtain ⟨g, h3, h4⟩ := Zhv hc
 have hb : trust_checkBoth.f l c = some (if f = 0 then g else f) := by
  unfold trust_checkBoth.f
  rw [h1, ob_s, h3]
  by_cases h : f = 0
  ·rw [decide_eq_true h, if_pos h]; rfl
  ·rw [decide_eq_false h, if_neg h]; rfl
 by_cases hf : f = 0
 ·rw [if_pos hf] at hb
  obtain ⟨g1, g2⟩ := h2 hf
  by_cases hg : g = 0
  ·subst hg
   by_cases hx : ∃ k : Nat, ∃ h : k < l.length, l[k].1 = c.2.2.2.1
   ·obtain ⟨k, hk, he⟩ := hx
    exact .one k hk hb h3 (h4 rfl) g1 g2 he
   ·exact .none hb h3 (h4 rfl) g1 g2 (fun k hk he => hx ⟨k, hk, he⟩)
  ·exact .no g hg hb
 ·rw [if_neg hf] at hb
  exact .no f hf hb
theorem Zha {l : List Wr} (hl : l.length ≤ 50) (hr : Rising (labs l)) {s : ByteArray} (hn : ∀ k : Nat, ∀ h : k < l.length, l[k].1 ≠ s) : ∃ r, Q2f.f l s = some r ∧ r.2 = false := by
 obtain ⟨r, h1, h2⟩ := Zde (by omega) hr s
 rcases h2 with ⟨h2, _⟩ | ⟨k, hk, _, h3⟩
 ·exact ⟨r, h1, h2⟩
 ·exact absurd h3 (hn k hk)
theorem Zje {l : List Wr} (hl : l.length ≤ 50) (hr : Rising (labs l)) {s : ByteArray} {k : Nat} (hk : k < l.length) (he : l[k].1 = s) : Q2f.f l s = some (l[k], true) := by
 obtain ⟨r, h1, h2⟩ := Zde (by omega) hr s
 rcases h2 with ⟨_, h2⟩ | ⟨k', hk', h2, h3⟩
 ·exact absurd he (h2 k hk)
 ·have hkk : k = k' := hr.inj (by unfold labs; simpa using hk) (by unfold labs; simpa using hk') (by rw [Z1x hk, Z1x hk', he, h3])
  subst hkk
  rw [h1, h2]
theorem Zcp {l : List Wr} (hl : l.length ≤ 50) {s : ByteArray} (hn : ∀ k : Nat, ∀ h : k < l.length, l[k].1 ≠ s) : Q10.f l s = some (-1) := by
 obtain ⟨r, h1, h2⟩ := Z7e (l := l) (by omega) s
 rcases h2 with ⟨rfl, _⟩ | ⟨k, _, hk, h3⟩
 ·exact h1
 ·exact absurd h3 (hn k hk)
theorem Zec {l : List Wr} (hl : l.length ≤ 50) (hr : Rising (labs l)) {s : ByteArray} {k : Nat} (hk : k < l.length) (he : l[k].1 = s) : Q10.f l s = some (k : Int) := by
 obtain ⟨r, h1, h2⟩ := Z7e (l := l) (by omega) s
 rcases h2 with ⟨_, h2⟩ | ⟨k', h2, hk', h3⟩
 ·exact absurd he (h2 k hk)
 ·have hkk : k = k' := hr.inj (by unfold labs; simpa using hk) (by unfold labs; simpa using hk') (by rw [Z1x hk, Z1x hk', he, h3])
  subst hkk
  rw [h1, h2]
section
variable {l : List Wr} {c : Cl} (hs : ∀ w ∈ l, szW w) (hn : ∀ w ∈ l, w.2.2.1.length ≤ 100000000000)
theorem ask_eq (hs : ∀ w ∈ l, szW w) (hc : szR c) : ref11_askSigned.f l c = trust_checkBoth.f l c := by
 unfold ref11_askSigned.f trust_checkBoth.f
 rw [Ze6 hs, Zkd hc]
theorem Zd1 (h : trust_checkBoth.f l c = some 0) (hl : l.length ≤ 50) (hr : Rising (labs l)) (hn : ∀ k : Nat, ∀ h : k < l.length, l[k].1 ≠ c.2.2.2.1) : trust_Signed.f l c = some (E0, 9) ∧ trust_Genuine.f l c = some (3, 0) := by
 obtain ⟨r, h1, h2⟩ := Zha hl hr hn
 unfold trust_Signed.f trust_Genuine.f Q21.f
 rw [h, h1]
 simp only [ob_s, decide_true, Bool.not_true, cb_f, h2, Bool.not_false, cb_t, and_self]
theorem Zbc (h : ref11_askSigned.f l c = some 0) (hl : l.length ≤ 50) (hn : ∀ k : Nat, ∀ h : k < l.length, l[k].1 ≠ c.2.2.2.1) : ref11_Signed.f l c = some (E0, 9) ∧ ref11_Genuine.f l c = some (3, 0) := by
 have h1 := Zcp hl hn
 unfold ref11_Signed.f ref11_Genuine.f Q22.f
 rw [h, h1]
 simp only [ob_s, decide_true, Bool.not_true, cb_f]
 exact ⟨rfl, rfl⟩
theorem Zep (hs : ∀ w ∈ l, szW w) (hn : ∀ w ∈ l, w.2.2.1.length ≤ 100000000000) {k : Nat} (hk : k < l.length) (h : trust_checkBoth.f l c = some 0) (ho : OkC c) (hl : l.length ≤ 50) (hr : Rising (labs l)) (he : l[k].1 = c.2.2.2.1) : trust_Signed.f l c = some (sgn l[k] c, 0) ∧ trust_Genuine.f l c = some (genB l[k] c, 0) := by
 have h1 := Zje hl hr hk he
 have hw := hs _ (List.getElem_mem hk)
 have hm := ho.many
 have h2 := (Zjz (s := l[k].2.1) (Nat.le_trans hw.2.1 (by decide)) ho).1
 have h3 := Ze5 (l := c.2.2.2.2.2.1) (by omega)
 have h4 := Zk3 (w := l[k]) (hn _ (List.getElem_mem hk)) c.2.1 c.2.2.2.2.1
 constructor
 ·unfold trust_Signed.f
  rw [h, h1]
  simp only [ob_s, decide_true, Bool.not_true, cb_f, h3]
  show ob (Q23.f l[k].2.1 c) _ = _
  rw [h2]
  rfl
 ·unfold trust_Genuine.f Q21.f
  rw [h, h1]
  simp only [ob_s, decide_true, Bool.not_true, cb_f, h2, h4]
  unfold genB
  by_cases g : c.2.2.2.2.2.2 = sigB l[k].2.1 c
  ·rw [decide_eq_true g, if_pos g]
   cases mayB l[k] c.2.1 c.2.2.2.2.1 <;> rfl
  ·rw [decide_eq_false g, if_neg g]; rfl
theorem Zd2 (hs : ∀ w ∈ l, szW w) (hn : ∀ w ∈ l, w.2.2.1.length ≤ 100000000000) {k : Nat} (hk : k < l.length) (h : ref11_askSigned.f l c = some 0) (ho : OkC c) (hl : l.length ≤ 50) (hr : Rising (labs l)) (he : l[k].1 = c.2.2.2.1) : ref11_Signed.f l c = some (sgn l[k] c, 0) ∧ ref11_Genuine.f l c = some (genB l[k] c, 0) := by
 have h1 := Zec hl hr hk he
 have hw := hs _ (List.getElem_mem hk)
 have hm := ho.many
 have h2 := (Zjz (s := l[k].2.1) (Nat.le_trans hw.2.1 (by decide)) ho).2
 have h3 := Ze5 (l := c.2.2.2.2.2.1) (by omega)
 have h4 := mayR_eq (w := l[k]) (hn _ (List.getElem_mem hk)) c.2.1 c.2.2.2.2.1
 have h5 : ¬ ((k : Int) < 0) := by omega
 have h6 : (0 : Int) ≤ (k : Int) ∧ (k : Int) < ((List.length l : Nat) : Int) := by omega
 constructor
 ·unfold ref11_Signed.f
  rw [h, h1]
  simp only [ob_s, decide_true, Bool.not_true, cb_f, decide_eq_false h5, Z1 h6, Zm hk, h2, h3]
  rfl
 ·unfold ref11_Genuine.f Q22.f
  rw [h, h1]
  simp only [ob_s, decide_true, Bool.not_true, cb_f, decide_eq_false h5, Z1 h6, Zm hk, h2, h4]
  unfold genB
  by_cases g : c.2.2.2.2.2.2 = sigB l[k].2.1 c
  ·rw [decide_eq_true g, if_pos g]
   cases mayB l[k] c.2.1 c.2.2.2.2.1 <;> rfl
  ·rw [decide_eq_false g, if_neg g]; rfl
end
theorem sameC {c : Cl} (h : c.2.2.2.2.2.1.length ≤ 1000000000000) : Q1z.f c c = some true := by
 unfold Q1z.f
 simp only [decide_true, cb_t, Zk9 h, ob_s]
theorem copyC {c : Cl} (h : c.2.2.2.2.2.1.length * 16 ≤ 140737488355328) : Q20.f c = some c := by
 unfold Q20.f
 rw [Ze5 h, ob_s]
theorem copyL {l : List Cl} (hl : l.length ≤ 100000000000) (hn : ∀ c ∈ l, c.2.2.2.2.2.1.length ≤ 1000000000000) : Q1u.f l = some l := by
 have go : ∀ (n k : Nat) (o : List Cl), l.length - k = n → k ≤ l.length → o.length = k → Q1u.l0 l (l.length : Int) (k : Int) o = some (o ++ l.drop k) := by
  intro n
  induction n with
  | zero =>
   intro k o hn hk ho
   rw [List.drop_eq_nil_of_le (by omega), List.append_nil]
   refine Z2 ?_
   simp only [Q1u.s0, Z3]
   rw [if_neg (by omega)]
  | succ n ih =>
   intro k o hn' hk ho
   have hlt : k < l.length := by omega
   have hw := hn _ (List.getElem_mem hlt)
   have h2 := ih (k + 1) (o ++ [l[k]]) (by omega) (by omega) (by simp [ho])
   rw [List.append_assoc, List.singleton_append, ← List.drop_eq_getElem_cons hlt] at h2
   refine (Z5 ?_).trans h2
   simp only [Q1u.s0, Z3, Zm hlt, copyC (c := l[k]) (by omega), ob_s]
   rw [if_pos (by omega), Z1 (by omega), Z1 (by simp only [List.length_cons, List.length_nil]; omega), Zk (by omega) (by omega)]
   rfl
 unfold Q1u.f
 have h := go l.length 0 [] (by omega) (by omega) rfl
 rw [List.drop_zero, List.nil_append, show ((0 : Nat) : Int) = 0 from rfl] at h
 simp only [h, ob_s]
theorem sameL {l : List Cl} (hl : l.length ≤ 100000000000) (hn : ∀ c ∈ l, c.2.2.2.2.2.1.length ≤ 1000000000000) : Q1t.f l l = some true := by
 have go : ∀ (n k : Nat), l.length - k = n → Q1t.l0 l l (l.length : Int) (k : Int) = some (.inr ()) := by
  intro n
  induction n with
  | zero =>
   intro k hn'
   refine Z2 ?_
   simp only [Q1t.s0, Z3]
   rw [if_neg (by omega)]
  | succ n ih =>
   intro k hn'
   have hlt : k < l.length := by omega
   have hw := hn _ (List.getElem_mem hlt)
   have c0 : 0 ≤ (k : Int) ∧ (k : Int) < (l.length : Int) := by omega
   have c1 : InR ((k : Int) + 1) := ⟨by omega, by omega⟩
   refine (Z5 ?_).trans (ih (k + 1) (by omega))
   simp only [Q1t.s0, Z3, Zm hlt, Z1 c0, Z1 c1, if_pos c0.2, sameC hw, ob_s, Bool.not_true, cb_f]
   rfl
 have h := go l.length 0 (by omega)
 rw [show ((0 : Nat) : Int) = 0 from rfl] at h
 unfold Q1t.f
 simp only [Z1i, Z3, if_true, h, ob_s, Z2x]
end Go.Proofs.YtplgphblmeceoaaGreatDoor
set_option linter.unusedVariables false
set_option linter.unusedSimpArgs false
namespace Go.Proofs.YtplgphblmeceoaaGreatDoor
open Go Go.Proofs.YtplgphblmeceoaaGreatDoor.Eng
abbrev TyCl : Ty := .pair .str (.pair .str (.pair .str (.pair .str (.pair (.int .i64) (.pair (.slice .str) .str)))))
abbrev TyWr : Ty := .pair .str (.pair .str (.pair (.slice .str) (.pair (.int .i64) (.int .i64))))
theorem up_cls {l : List Cl} (h : Up.InDU T 6 23 (.slice TyCl) l) : l.length ≤ 100000000000 ∧ (∀ c ∈ l, szR c) ∧ ∀ c ∈ l, c.2.2.2.2.2.1.length ≤ 1000000000000 := by
 have hu : Up.upBytes = 4294967296 := rfl
 have g0 : List.length l * 112 ≤ Up.upBytes := h.1
 have g1 : ∀ c ∈ l, szR c ∧ c.2.2.2.2.2.1.length ≤ 100000000000 := fun c hc => by
  have h := h.2 c hc
  have g1 : c.2.1.size ≤ Up.upBytes := h.2.1
  have g2 : List.length c.2.2.2.2.2.1 * 16 ≤ Up.upBytes := h.2.2.2.2.2.1.1
  exact ⟨Nat.le_trans g1 (by rw [hu]; decide), by omega⟩
 exact ⟨by omega, fun c hc => (g1 c hc).1, fun c hc => Nat.le_trans (g1 c hc).2 (by decide)⟩
theorem up_wrs {l : List Wr} (h : Up.InDU T 6 22 (.slice TyWr) l) : l.length ≤ 100000000000 ∧ (∀ w ∈ l, szW w) ∧ ∀ w ∈ l, w.2.2.1.length ≤ 100000000000 := by
 have hu : Up.upBytes = 4294967296 := rfl
 have h1 : List.length l * 72 ≤ Up.upBytes := h.1
 have h2 : ∀ w ∈ l, szW w ∧ w.2.2.1.length ≤ 100000000000 := fun w hw => by
  have h := h.2 w hw
  have g1 : w.1.size ≤ Up.upBytes := h.1
  have g2 : w.2.1.size ≤ Up.upBytes := h.2.1
  have g3 : List.length w.2.2.1 * 16 ≤ Up.upBytes := h.2.2.1.1
  refine ⟨⟨by omega, by omega, fun y hy => ?_⟩, by omega⟩
  have g4 : y.size ≤ Up.upBytes := h.2.2.1.2 y hy
  omega
 exact ⟨by omega, fun w hw => (h2 w hw).1, fun w hw => (h2 w hw).2⟩
end Go.Proofs.YtplgphblmeceoaaGreatDoor
set_option linter.unusedVariables false
set_option linter.unusedSimpArgs false
namespace Go.Proofs.YtplgphblmeceoaaGreatDoor
open Go Go.Lib Go.Proofs.YtplgphblmeceoaaGreatDoor.Eng
abbrev Au : Type := Int × (ByteArray × Int)
def hx (d : Nat) : UInt8 := bt hexCs (d : Int)
theorem b16 : ((UInt8.toNat (UInt8.ofInt (IntKind.u8.wrap (16 : Int))) : Nat) : Int) = 16 := by decide
end Go.Proofs.YtplgphblmeceoaaGreatDoor
set_option linter.unusedVariables false
set_option linter.unusedSimpArgs false
namespace Go.Proofs.YtplgphblmeceoaaGreatDoor
open Go Go.Lib Go.Proofs.YtplgphblmeceoaaGreatDoor.Eng
structure OkA (l : List Cl) (m : List Au) : Prop where
 log : OkL l
 len : m.length ≤ 1000
 num : ∀ a ∈ m, 0 ≤ a.1 ∧ a.1 < (l.length : Int)
theorem audLoop {l : List Cl} (hl : l.length ≤ 1000) {m : List Au} (hm : m.length ≤ 1000) : ∀ (n k : Nat), m.length - k = n → ∃ r, Qj.l0 l m m (m.length : Int) (k : Int) = some r ∧ ((r = .inr () ∧ ∀ j : Nat, ∀ h : j < m.length, k ≤ j → 0 ≤ m[j].1 ∧ m[j].1 < (l.length : Int)) ∨ ∃ f : Int, f ≠ 0 ∧ r = .inl f) := by
 intro n
 induction n with
 | zero =>
  intro k hk
  refine ⟨.inr (), Z2 ?_, .inl ⟨rfl, fun j hj h => by omega⟩⟩
  simp only [Qj.s0, Z3]
  rw [if_neg (by omega)]
 | succ n ih =>
  intro k hk
  have hlt : k < m.length := by omega
  have e : ((k : Int) + 1) = ((k + 1 : Nat) : Int) := by omega
  obtain ⟨r, h1, h2⟩ := ih (k + 1) (by omega)
  have key : ∀ res, Qj.s0 l m m (m.length : Int) (k : Int) = some res → (∃ f : Int, f ≠ 0 ∧ res = .inr (.inl f)) ∨ (res = .inl ((k + 1 : Nat) : Int) ∧ 0 ≤ m[k].1 ∧ m[k].1 < (l.length : Int)) → ∃ r, Qj.l0 l m m (m.length : Int) (k : Int) = some r ∧ ((r = .inr () ∧ ∀ j : Nat, ∀ h : j < m.length, k ≤ j → 0 ≤ m[j].1 ∧ m[j].1 < (l.length : Int)) ∨ ∃ f : Int, f ≠ 0 ∧ r = .inl f) := by
   intro res hs hr
   rcases hr with ⟨f, h0, rfl⟩ | ⟨rfl, h3, h4⟩
   ·exact ⟨.inl f, Z2 hs, .inr ⟨f, h0, rfl⟩⟩
   ·refine ⟨r, (Z5 hs).trans h1, ?_⟩
    rcases h2 with ⟨h2, h5⟩ | h2
    ·refine .inl ⟨h2, fun j hj hkj => ?_⟩
     rcases Nat.eq_or_lt_of_le hkj with rfl | h6
     ·exact ⟨h3, h4⟩
     ·exact h5 j hj h6
    ·exact .inr h2
  have hs : ∃ res, Qj.s0 l m m (m.length : Int) (k : Int) = some res ∧ ((∃ f : Int, f ≠ 0 ∧ res = .inr (.inl f)) ∨ (res = .inl ((k + 1 : Nat) : Int) ∧ 0 ≤ m[k].1 ∧ m[k].1 < (l.length : Int))) := by
   unfold Qj.s0
   rw [decide_eq_true (by omega), cb_t, Z1 ⟨by omega, by omega⟩, Zm hlt]
   simp only [Z1n, Z2e, ob_s]
   rw [Zk (by omega) (by omega)]
   by_cases hn : 0 ≤ m[k].1 ∧ m[k].1 ≤ (l.length : Int) - 1
   ·rw [decide_eq_true hn]
    simp only [Bool.not_true, cb_f]
    cases hd : digB m[k].2.1 with
    | false => exact ⟨_, rfl, .inl ⟨3, by decide, rfl⟩⟩
    | true =>
     simp only [Bool.not_true, cb_f]
     rw [Z1 ⟨hn.1, by omega⟩]
     by_cases ha : (rd C0 l m[k].1).2.2.2.2.1 ≤ m[k].2.2 ∧ m[k].2.2 ≤ 1000000000
     ·rw [decide_eq_true ha]
      simp only [Bool.not_true, cb_f, Z3]
      by_cases h0 : 0 < k
      ·have e1 : (k : Int) - 1 = ((k - 1 : Nat) : Int) := by omega
       rw [if_pos (by omega), Zk (by omega) (by omega), e1, Z1 ⟨by omega, by omega⟩, Zk (by omega) (by omega), e]
       split
       ·exact ⟨_, rfl, .inl ⟨8, by decide, rfl⟩⟩
       ·exact ⟨_, rfl, .inr ⟨rfl, hn.1, by omega⟩⟩
      ·rw [if_neg (by omega), Zk (by omega) (by omega), e]
       exact ⟨_, rfl, .inr ⟨rfl, hn.1, by omega⟩⟩
     ·rw [decide_eq_false ha]
      exact ⟨_, rfl, .inl ⟨1, by decide, rfl⟩⟩
   ·rw [decide_eq_false hn]
    exact ⟨_, rfl, .inl ⟨9, by decide, rfl⟩⟩
  obtain ⟨res, hs, hr⟩ := hs
  exact key res hs hr
theorem Zjt {l : List Cl} (hs : ∀ c ∈ l, szC c) (m : List Au) : ∃ f : Int, Qj.f l m = some f ∧ (f = 0 → OkA l m) := by
 obtain ⟨f, h1, h2⟩ := Zjs hs
 unfold Qj.f
 rw [h1, ob_s]
 by_cases hf : f = 0
 ·rw [decide_eq_true hf]
  simp only [Bool.not_true, cb_f, Z3]
  have hk := h2 hf
  by_cases h : 1000 < m.length
  ·rw [if_pos (by omega)]; exact ⟨2, rfl, fun h => by cases h⟩
  ·rw [if_neg (by omega)]
   obtain ⟨r, h3, h4⟩ := audLoop hk.len (m := m) (by omega) _ 0 rfl
   rw [show ((0 : Nat) : Int) = 0 from rfl] at h3
   rw [h3, ob_s]
   rcases h4 with ⟨rfl, h5⟩ | ⟨f', hf', rfl⟩
   ·refine ⟨0, rfl, fun _ => ⟨hk, by omega, fun a ha => ?_⟩⟩
    obtain ⟨j, hj, rfl⟩ := List.getElem_of_mem ha
    exact h5 j hj (Nat.zero_le _)
   ·exact ⟨f', rfl, fun h => absurd h hf'⟩
 ·rw [decide_eq_false hf]
  exact ⟨f, rfl, fun h => absurd h hf⟩
noncomputable def same (l : List Cl) (x : Au) : Bool := decide (x.2.1 = (rd C0 l x.1).2.2.1)
abbrev Fc : Type := List Bool × (List Bool × List (ByteArray × Bool))
noncomputable def fcs (l : List Cl) : List Au → Fc → Fc
 | [], t => t
 | x :: r, t => fcs l r (t.1.set x.1.toNat true, (match same l x with | true => t.2.1 | false => t.2.1.set x.1.toNat true), (match same l x with | true => t.2.2 | false => mset (rd C0 l x.1).2.2.2.1 true t.2.2))
theorem fcLoop {l : List Cl} {m : List Au} (hm : m.length ≤ 1000) (hn : ∀ a ∈ m, 0 ≤ a.1 ∧ a.1 < (l.length : Int)) : ∀ (n k : Nat) (a w : List Bool) (s : List (ByteArray × Bool)), m.length - k = n → a.length = l.length → w.length = l.length → Qw.l0 l m (m.length : Int) (k : Int) [] [] [] a w s = some ([], [], [], fcs l (m.drop k) (a, w, s)) := by
 intro n
 induction n with
 | zero =>
  intro k a w s hk ha hw
  refine Z2 ?_
  simp only [Qw.s0, Z3]
  rw [if_neg (by omega), List.drop_eq_nil_of_le (by omega)]
  rfl
 | succ n ih =>
  intro k a w s hk ha hw
  have hlt : k < m.length := by omega
  obtain ⟨h1, h2⟩ := hn _ (List.getElem_mem hlt)
  have e : ((k : Int) + 1) = ((k + 1 : Nat) : Int) := by omega
  rw [List.drop_eq_getElem_cons hlt]
  unfold fcs
  cases hq : same l m[k] with
  | true =>
   have hq' : m[k].2.1 = (rd C0 l m[k].1).2.2.1 := of_decide_eq_true hq
   refine (Z5 (x' := (((k + 1 : Nat) : Int), [], [], [], a.set m[k].1.toNat true, w, s)) ?_).trans (ih (k + 1) _ _ _ (by omega) (by simp [ha]) hw)
   simp only [Qw.s0]
   rw [decide_eq_true (by omega), cb_t, Z1 ⟨by omega, by omega⟩, Zm hlt]
   rw [Z1 ⟨h1, by omega⟩, Z1 (by omega), Z1 ⟨h1, h2⟩, decide_eq_true hq']
   simp only [Bool.not_true, cb_f]
   rw [Zk (by omega) (by omega), e]
  | false =>
   have hq' : ¬ m[k].2.1 = (rd C0 l m[k].1).2.2.1 := of_decide_eq_false hq
   refine (Z5 (x' := (((k + 1 : Nat) : Int), [], [], [], a.set m[k].1.toNat true, w.set m[k].1.toNat true, mset (rd C0 l m[k].1).2.2.2.1 true s)) ?_).trans (ih (k + 1) _ _ _ (by omega) (by simp [ha]) (by simp [hw]))
   simp only [Qw.s0]
   rw [decide_eq_true (by omega), cb_t, Z1 ⟨by omega, by omega⟩, Zm hlt]
   rw [Z1 ⟨h1, by omega⟩, Z1 (by omega), Z1 ⟨h1, h2⟩, decide_eq_false hq']
   simp only [Bool.not_false, cb_t]
   rw [Z1 ⟨h1, by omega⟩, Z1 (by omega), Z1 ⟨h1, h2⟩, Zk (by omega) (by omega), e]
theorem Zjf {l : List Cl} {m : List Au} (hA : OkA l m) : Qw.f l m = some (fcs l m (List.replicate l.length false, List.replicate l.length false, [])) := by
 have hl := hA.log.len
 have hck : ∀ a : Option Fc, ck (0 ≤ ((List.length l : Nat) : Int) ∧ ((List.length l : Nat) : Int) * (1 : Int) ≤ 140737488355328) a = a := fun a => Z1 ⟨by omega, by omega⟩
 have h := fcLoop (l := l) hA.len hA.num _ 0 (List.replicate l.length false) (List.replicate l.length false) [] rfl (by simp) (by simp)
 rw [show ((0 : Nat) : Int) = 0 from rfl, List.drop_zero] at h
 unfold Qw.f
 simp only [mix_eq, hck, Int.toNat_natCast, h, ob_s, Z8g]
theorem Zhe (l : List Cl) : ∀ (m : List Au) (t : Fc), (fcs l m t).1.length = t.1.length ∧ (fcs l m t).2.1.length = t.2.1.length
 | [], t => ⟨rfl, rfl⟩
 | x :: r, t => by
  unfold fcs
  have h := Zhe l r (t.1.set x.1.toNat true, (match same l x with | true => t.2.1 | false => t.2.1.set x.1.toNat true), (match same l x with | true => t.2.2 | false => mset (rd C0 l x.1).2.2.2.1 true t.2.2))
  refine ⟨h.1.trans (by simp), h.2.trans ?_⟩
  cases same l x <;> simp
end Go.Proofs.YtplgphblmeceoaaGreatDoor
set_option linter.unusedVariables false
set_option linter.unusedSimpArgs false
namespace Go.Proofs.YtplgphblmeceoaaGreatDoor
open Go Go.Lib Go.Proofs.YtplgphblmeceoaaGreatDoor.Eng
theorem audRef {l : List Cl} (hs : ∀ c ∈ l, szR c) (m : List Au) : Qj.f l m = Qy.f l m := by
 unfold Qj.f Qy.f
 rw [Zcd hs]
 rfl
theorem Zdu {w : List Bool} {i : Nat} {b : Bool} (h : i < w.length) (hb : w[i] = b) : w.set i b = w := by
 subst hb
 exact List.set_getElem_self h
theorem Zab (l : List Cl) (x : Au) (r : List Au) (t : Fc) : fcs l (x :: r) t = fcs l r (t.1.set x.1.toNat true, (match same l x with | true => t.2.1 | false => t.2.1.set x.1.toNat true), (match same l x with | true => t.2.2 | false => mset (rd C0 l x.1).2.2.2.1 true t.2.2)) := rfl
theorem stLoop0 {l : List Cl} {m : List Au} (hm : m.length ≤ 1000) (hn : ∀ a ∈ m, 0 ≤ a.1 ∧ a.1 < (l.length : Int)) (t : List Bool) (s : List (ByteArray × Bool)) : ∀ (n k : Nat) (a w : List Bool) (s : List (ByteArray × Bool)), m.length - k = n → a.length = l.length → w.length = l.length → Q1.l0 l m (m.length : Int) (k : Int) a w t = some ((fcs l (m.drop k) (a, w, s)).1, (fcs l (m.drop k) (a, w, s)).2.1, t) := by
 intro n
 induction n with
 | zero =>
  intro k a w s hk ha hw
  refine Z2 ?_
  simp only [Q1.s0, Z3]
  rw [if_neg (by omega), List.drop_eq_nil_of_le (by omega)]
  rfl
 | succ n ih =>
  intro k a w s hk ha hw
  have hlt : k < m.length := by omega
  obtain ⟨h1, h2⟩ := hn _ (List.getElem_mem hlt)
  have e : ((k : Int) + 1) = ((k + 1 : Nat) : Int) := by omega
  have hi : m[k].1.toNat < w.length := by omega
  rw [List.drop_eq_getElem_cons hlt, Zab]
  have hw' : (match same l m[k] with | true => w | false => w.set m[k].1.toNat true).length = l.length := by cases same l m[k] <;> simp [hw]
  have step : Q1.s0 l m (m.length : Int) (k : Int) a w t = some (.inl (((k + 1 : Nat) : Int), a.set m[k].1.toNat true, (match same l m[k] with | true => w | false => w.set m[k].1.toNat true), t)) := by
   simp only [Q1.s0]
   rw [decide_eq_true (by omega), cb_t, Z1 ⟨by omega, by omega⟩, Zm hlt, Z1 ⟨h1, by omega⟩, Z1 (by omega), Z1 ⟨h1, by omega⟩, Z1 hi]
   have hg : List.getD w m[k].1.toNat false = w[m[k].1.toNat] := by simp [List.getD, List.getElem?_eq_getElem hi]
   rw [hg]
   cases hb : w[m[k].1.toNat] with
   | true =>
    rw [cb_t, Z1 ⟨h1, by omega⟩, Z1 hi, Zk (by omega) (by omega), e, Zdu hi hb]
    cases same l m[k] <;> rfl
   | false =>
    rw [cb_f, Z1 ⟨h1, h2⟩, Z1 ⟨h1, by omega⟩, Z1 hi, Zk (by omega) (by omega), e]
    cases hq : same l m[k] with
    | true =>
     have hq' : m[k].2.1 = (rd C0 l m[k].1).2.2.1 := of_decide_eq_true hq
     rw [decide_eq_true hq']
     simp only [Bool.not_true]
     rw [Zdu hi hb]
    | false =>
     have hq' : ¬ m[k].2.1 = (rd C0 l m[k].1).2.2.1 := of_decide_eq_false hq
     rw [decide_eq_false hq']
     rfl
  refine (Z5 step).trans ((ih (k + 1) _ _ (match same l m[k] with | true => s | false => mset (rd C0 l m[k].1).2.2.2.1 true s) (by omega) (by simp [ha]) hw').trans ?_)
  rfl
def wrs : List Cl → List Bool → List ByteArray
 | c :: r, b :: q => match b with | true => c.2.2.2.1 :: wrs r q | false => wrs r q
 | _, _ => []
theorem stLoop1 {l : List Cl} (hl : l.length ≤ 1000) {a w t : List Bool} (hw : w.length = l.length) (o5 : List ByteArray) : ∀ (n k : Nat) (o : List ByteArray), l.length - k = n → o.length ≤ k → Q1.l1 l (l.length : Int) (k : Int) a w t o5 o = some (a, w, t, o5, o ++ wrs (l.drop k) (w.drop k)) := by
 intro n
 induction n with
 | zero =>
  intro k o hk ho
  refine Z2 ?_
  simp only [Q1.s1, Z3]
  rw [if_neg (by omega), List.drop_eq_nil_of_le (by omega)]
  simp [wrs]
 | succ n ih =>
  intro k o hk ho
  have hlt : k < l.length := by omega
  have hltw : k < w.length := by omega
  have e : ((k : Int) + 1) = ((k + 1 : Nat) : Int) := by omega
  have hg : List.getD w k false = w[k] := by simp [List.getD, List.getElem?_eq_getElem hltw]
  rw [List.drop_eq_getElem_cons hlt, List.drop_eq_getElem_cons hltw]
  cases hb : w[k] with
  | true =>
   refine (Z5 (x' := (((k + 1 : Nat) : Int), a, w, t, o5, o ++ [l[k].2.2.2.1])) ?_).trans ((ih (k + 1) _ (by omega) (by simp; omega)).trans (by simp [wrs]))
   simp only [Q1.s1]
   rw [decide_eq_true (by omega), cb_t, Z1 ⟨by omega, by omega⟩, Zm hlt, Z1 ⟨by omega, by omega⟩, Int.toNat_natCast, Z1 hltw, hg, hb, cb_t, Z1 (by simp; omega), Zk (by omega) (by omega), e]
  | false =>
   refine (Z5 (x' := (((k + 1 : Nat) : Int), a, w, t, o5, o)) ?_).trans ((ih (k + 1) _ (by omega) (by omega)).trans (by simp [wrs]))
   simp only [Q1.s1]
   rw [decide_eq_true (by omega), cb_t, Z1 ⟨by omega, by omega⟩, Zm hlt, Z1 ⟨by omega, by omega⟩, Int.toNat_natCast, Z1 hltw, hg, hb, cb_f, Zk (by omega) (by omega), e]
abbrev Sta : Type := List Bool × (List Bool × (List Bool × List ByteArray))
theorem dbLoop1 {l : List Cl} (hl : l.length ≤ 1000) {S : Sta} (hS1 : S.1.length = l.length) (hS : S.2.1.length = l.length) {i : Nat} (hi : i < l.length) {r : Int} (hr : r < (l.length : Int)) : ∀ (n k : Nat) (x : Int), l.length - k = n → ∃ q : Int, Q3.l1 l (i : Int) S r x (k : Int) = some q := by
 intro n
 induction n with
 | zero =>
  intro k x hk
  refine ⟨x, Z2 ?_⟩
  simp only [Q3.s1, Z3]
  rw [if_neg (by omega)]
 | succ n ih =>
  intro k x hk
  by_cases hkr : (k : Int) < r
  ·have hlt : k < l.length := by omega
   have e : ((k : Int) + 1) = ((k + 1 : Nat) : Int) := by omega
   have key : ∃ y : Int, Q3.s1 l (i : Int) S r x (k : Int) = some (.inl (y, ((k + 1 : Nat) : Int))) := by
    simp only [Q3.s1]
    rw [decide_eq_true hkr, cb_t, Z1 ⟨by omega, by omega⟩, Z1 ⟨by omega, by omega⟩, Z1 ⟨by omega, by omega⟩, Z1 ⟨by omega, by omega⟩, Zk (by omega) (by omega), Zk (by omega) (by omega), e, Z3]
    split
    ·cases rd false S.1 (k : Int)
     ·exact ⟨x, rfl⟩
     ·cases rd false S.2.1 (k : Int)
      ·exact ⟨(k : Int), rfl⟩
      ·exact ⟨x, rfl⟩
    ·exact ⟨x, rfl⟩
   obtain ⟨y, h⟩ := key
   obtain ⟨q, hq⟩ := ih (k + 1) y (by omega)
   exact ⟨q, (Z5 h).trans hq⟩
  ·refine ⟨x, Z2 ?_⟩
   simp only [Q3.s1, Z3]
   rw [if_neg hkr]
theorem wrs_len : ∀ (l : List Cl) (w : List Bool), (wrs l w).length ≤ l.length
 | [], _ => by simp [wrs]
 | c :: r, [] => by simp [wrs]
 | c :: r, b :: q => by
  have := wrs_len r q
  cases b <;> simp [wrs] <;> omega
theorem run47 {xs : List ByteArray} (h : xs.length ≤ 1000000000) : Z0 xs = some (Z4m xs) := Z1 h
theorem run48 {xs : List ByteArray} (h : xs.length ≤ 1000000000) : Z4 xs = some (Z1w xs ++ List.replicate (xs.length - (Z1w xs).length) (ByteArray.empty)) := Z1 h
theorem Zfy (xs : List ByteArray) : (Z4m xs).length = xs.length := by simp [Z4m]
end Go.Proofs.YtplgphblmeceoaaGreatDoor
set_option linter.unusedVariables false
namespace Go.Proofs.YtplgphblmeceoaaGreatDoor
open Go Go.Lib Go.Proofs.YtplgphblmeceoaaGreatDoor.Eng
theorem Z7u {α : Type} (x y : ByteArray) (v : α) : ∀ es : List (ByteArray × α), Zz x (Z1q y v es) = if x = y then some v else Zz x es
 | [] => by
  unfold Z1q Zz
  by_cases h : x = y
  ·rw [if_pos h, decide_eq_true h]
  ·rw [if_neg h, decide_eq_false h]; rfl
 | p :: r => by
  have ih := Z7u x y v r
  unfold Z1q
  by_cases hp : y = p.1
  ·rw [decide_eq_true hp]
   show Zz x ((y, v) :: r) = _
   by_cases h : x = y
   ·rw [if_pos h]; unfold Zz; rw [decide_eq_true h]
   ·rw [if_neg h]
    have h2 : ¬ x = p.1 := fun e => h (e.trans hp.symm)
    unfold Zz
    rw [decide_eq_false h, decide_eq_false h2]
  ·rw [decide_eq_false hp]
   cases klt y p.1 with
   | true =>
    show Zz x ((y, v) :: p :: r) = _
    by_cases h : x = y
    ·rw [if_pos h]; unfold Zz; rw [decide_eq_true h]
    ·rw [if_neg h]
     show Zz x ((y, v) :: p :: r) = Zz x (p :: r)
     conv => lhs; unfold Zz
     rw [decide_eq_false h]
   | false =>
    show Zz x (p :: Z1q y v r) = _
    by_cases h2 : x = p.1
    ·have h : ¬ x = y := fun e => hp (e.symm.trans h2)
     rw [if_neg h]
     unfold Zz
     rw [decide_eq_true h2]
    ·have e1 : Zz x (p :: Z1q y v r) = Zz x (Z1q y v r) := by
      conv => lhs; unfold Zz
      rw [decide_eq_false h2]
     have e2 : Zz x (p :: r) = Zz x r := by
      conv => lhs; unfold Zz
      rw [decide_eq_false h2]
     rw [e1, e2, ih]
end Go.Proofs.YtplgphblmeceoaaGreatDoor
set_option linter.unusedVariables false
set_option linter.unusedSimpArgs false
namespace Go.Proofs.YtplgphblmeceoaaGreatDoor
open Go Go.Lib Go.Proofs.YtplgphblmeceoaaGreatDoor.Eng
def SusW (l : List Cl) (t : Fc) : Prop := ∀ x, Option.getD (mget x t.2.2) false = true ↔ ∃ i, ∃ h : i < l.length, t.2.1[i]? = some true ∧ l[i].2.2.2.1 = x
theorem Zhd {l : List Cl} : ∀ (m : List Au) (t : Fc), (∀ a ∈ m, 0 ≤ a.1 ∧ a.1 < (l.length : Int)) → t.2.1.length = l.length → SusW l t → SusW l (fcs l m t)
 | [], t, _, _, h => h
 | a :: r, t, hn, ht, h => by
  rw [Zab]
  obtain ⟨h1, h2⟩ := hn a (List.mem_cons_self ..)
  refine Zhd r _ (fun b hb => hn b (List.mem_cons_of_mem _ hb)) ?_ ?_
  ·cases same l a <;> simp [ht]
  ·cases hs : same l a with
   | true => exact h
   | false =>
    intro x
    have hlt : a.1.toNat < l.length := by omega
    have e : rd C0 l a.1 = l[a.1.toNat] := by simp [rd, List.getD, List.getElem?_eq_getElem hlt]
    show Option.getD (Zz x (Z1q (rd C0 l a.1).2.2.2.1 true t.2.2)) false = true ↔ _
    rw [Z7u, e]
    have hx := h x
    by_cases hw : x = l[a.1.toNat].2.2.2.1
    ·rw [if_pos hw]
     refine ⟨fun _ => ⟨a.1.toNat, hlt, ?_, hw.symm⟩, fun _ => rfl⟩
     show (t.2.1.set a.1.toNat true)[a.1.toNat]? = _
     rw [List.getElem?_set_self (by omega)]
    ·rw [if_neg hw]
     refine hx.trans ⟨?_, ?_⟩
     ·rintro ⟨i, hi, h3, h4⟩
      refine ⟨i, hi, ?_, h4⟩
      show (t.2.1.set a.1.toNat true)[i]? = _
      rw [List.getElem?_set]
      split
      ·rw [if_pos (by omega)]
      ·exact h3
     ·rintro ⟨i, hi, h3, h4⟩
      have h3 : (t.2.1.set a.1.toNat true)[i]? = some true := h3
      have hne : ¬ a.1.toNat = i := fun e' => by subst e'; exact hw h4.symm
      rw [List.getElem?_set_ne hne] at h3
      exact ⟨i, hi, h3, h4⟩
end Go.Proofs.YtplgphblmeceoaaGreatDoor
set_option linter.unusedVariables false
set_option linter.unusedSimpArgs false
namespace Go.Proofs.YtplgphblmeceoaaGreatDoor
open Go Go.Lib Go.Proofs.YtplgphblmeceoaaGreatDoor.Eng
theorem Zjk (x : ByteArray) : eqS x x = true := by
 cases x with
 | mk d =>
  show (d == d) = true
  simp
theorem equalA {l : List Au} (hl : l.length ≤ 1000000000000) : Q6.f l l = some true := by
 have go : ∀ (n k : Nat), l.length - k = n → Q6.l0 l l (l.length : Int) (k : Int) = some (.inr ()) := by
  intro n
  induction n with
  | zero =>
   intro k hn
   refine Z2 ?_
   simp only [Q6.s0, Z3]
   rw [if_neg (by omega)]
  | succ n ih =>
   intro k hn
   have hlt : k < l.length := by omega
   have e1 : ∀ x : Int, eqI x x = true := fun x => by simp [eqI]
   have e2 : ∀ x : ByteArray, eqS x x = true := Zjk
   refine (Z5 ?_).trans (ih (k + 1) (by omega))
   simp only [Q6.s0, Z3, Zm hlt, e1, e2, Bool.and_true, Bool.not_true, cb_f]
   rw [if_pos (by omega), Z1 (by omega), Z1 (by omega), Zk (by omega) (by omega)]
   rfl
 have h := go l.length 0 (by omega)
 rw [show ((0 : Nat) : Int) = 0 from rfl] at h
 unfold Q6.f
 simp only [Z1i, Z3, if_true, h, ob_s, Z2x]
theorem cloneA {l : List Au} (h : l.length * 32 ≤ 140737488355328) : Qu.f l = some l := by
 unfold Qu.f
 by_cases he : l = []
 ·subst he
  rw [Z1 (by simp)]
  exact nq_same
 ·unfold nq
  rw [if_pos he, Z1 (by simp; omega)]
  rfl
abbrev TyAu : Ty := .pair (.int .i64) (.pair .str (.int .i64))
end Go.Proofs.YtplgphblmeceoaaGreatDoor
set_option linter.unusedVariables false
set_option linter.unusedSimpArgs false
namespace Go.Proofs.YtplgphblmeceoaaGreatDoor
open Go Go.Lib Go.Proofs.YtplgphblmeceoaaGreatDoor.Eng
theorem mup_ext {α : Type} {a b : List (ByteArray × α)} (ha : MUp a) (hb : MUp b) (h : ∀ k, Zz k a = Zz k b) : a = b := by
 have na : a.Nodup := List.Pairwise.imp (fun {p q} hpq e => by subst e; rw [Za0] at hpq; cases hpq) ha
 have nb : b.Nodup := List.Pairwise.imp (fun {p q} hpq e => by subst e; rw [Za0] at hpq; cases hpq) hb
 have hp : List.Perm a b := (List.perm_ext_iff_of_nodup na nb).2 fun p => by
  have h1 := mgetA_mem (k := p.1) ha.nodup p.2
  have h2 := mgetA_mem (k := p.1) hb.nodup p.2
  rw [h p.1] at h1
  exact (h1.symm.trans h2)
 exact List.Perm.eq_of_pairwise (fun p q _ _ h1 h2 => by
  have := Z7x h1 h2
  rw [Za0] at this; cases this) ha hb hp
theorem Zgg {α : Type} {k : ByteArray} {v : α} {es : List (ByteArray × α)} (h : MUp es) : MUp (mset k v es) := msetA_up h
theorem Z1r {α : Type} (x y : ByteArray) (v : α) (es : List (ByteArray × α)) : mget x (mset y v es) = if x = y then some v else mget x es := Z7u x y v es
def Z39 {α β : Type} (v : β) (l : List (ByteArray × α)) (acc : List (ByteArray × β)) : List (ByteArray × β) := l.foldl (fun a p => mset p.1 v a) acc
theorem Zao {α β : Type} {v : β} : ∀ (l : List (ByteArray × α)) {acc : List (ByteArray × β)}, MUp acc → MUp (Z39 v l acc)
 | [], _, h => h
 | p :: r, _, h => Zao r (Zgg h)
open Classical in
theorem Z46 {α β : Type} {v : β} (x : ByteArray) : ∀ (l : List (ByteArray × α)) (acc : List (ByteArray × β)), mget x (Z39 v l acc) = if (x ∈ l.map fun p => p.1) then some v else mget x acc
 | [], acc => by rw [if_neg (by simp)]; rfl
 | p :: r, acc => by
  show mget x (Z39 v r (mset p.1 v acc)) = _
  rw [Z46 x r, Z1r]
  by_cases h1 : x ∈ r.map (·.1)
  ·rw [if_pos h1, if_pos (by simp only [List.map_cons, List.mem_cons]; exact .inr h1)]
  ·rw [if_neg h1]
   by_cases h2 : x = p.1
   ·rw [if_pos h2, if_pos (by simp only [List.map_cons, List.mem_cons]; exact .inl h2)]
   ·rw [if_neg h2, if_neg (by simp only [List.map_cons, List.mem_cons, not_or]; exact ⟨h2, h1⟩)]
open Classical in
theorem Zff {α β : Type} {v : β} {l l' : List (ByteArray × α)} (hp : List.Perm l l') : Z39 v l [] = Z39 v l' [] := by
 refine mup_ext (Zao l List.Pairwise.nil) (Zao l' List.Pairwise.nil) fun k => ?_
 show mget k _ = mget k _
 rw [Z46, Z46]
 have : k ∈ l.map (·.1) ↔ k ∈ l'.map (·.1) := (hp.map _).mem_iff
 by_cases h : k ∈ l'.map (·.1)
 ·rw [if_pos (this.2 h), if_pos h]
 ·rw [if_neg (fun h2 => h (this.1 h2)), if_neg h]
abbrev MB : Type := List (ByteArray × Bool)
abbrev MI : Type := List (ByteArray × Int)
theorem Zg6 (S : MB) : Q9.l0 S [] [] = some (Z39 (-1 : Int) S [], []) := by
 have go : ∀ (l : MB) (acc : MI) (e : MB), Z3t (fun (x : MI × MB) e => Q9.s0 x.1 x.2 e) l (acc, e) = some (Z39 (-1 : Int) l acc, e) := by
  intro l
  induction l with
  | nil => intro acc e; rfl
  | cons p r ih =>
   intro acc e
   rw [Z4t]
   exact ih (mset p.1 (-1) acc) e
 refine Zj4 fun l hp => ?_
 rw [go l [] [], Zff hp]
def Z15 (S : MB) : Nat → List Cl → List Bool → List Bool → MI → MB → MI
 | k, c :: r, a :: A, w :: W, R, E => match w with
  | true => Z15 S (k + 1) r A W R (mset c.2.2.2.1 true E)
  | false => (match a && (Option.getD (mget c.2.2.2.1 S) false && !Option.getD (mget c.2.2.2.1 E) false) with
   | true => Z15 S (k + 1) r A W (mset c.2.2.2.1 (k : Int) R) E
   | false => Z15 S (k + 1) r A W R E)
 | _, _, _, _, R, _ => R
theorem Zg5 {l : List Cl} (hl : l.length ≤ 1000) {A W : List Bool} (hA : A.length = l.length) (hW : W.length = l.length) (S : MB) : ∀ (n k : Nat) (R : MI) (E : MB), l.length - k = n →
  ∃ E', Q9.l1 (A, (W, S)) l (l.length : Int) (k : Int) R E = some (Z15 S k (l.drop k) (A.drop k) (W.drop k) R E, E') := by
 intro n
 induction n with
 | zero =>
  intro k R E hk
  refine ⟨E, Z2 ?_⟩
  simp only [Q9.s1, Z3]
  rw [if_neg (by omega), List.drop_eq_nil_of_le (by omega)]
  rfl
 | succ n ih =>
  intro k R E hk
  have hlt : k < l.length := by omega
  have hltA : k < A.length := by omega
  have hltW : k < W.length := by omega
  have e : ((k : Int) + 1) = ((k + 1 : Nat) : Int) := by omega
  have gA : rd false A (k : Int) = A[k] := by simp [rd, List.getD, List.getElem?_eq_getElem hltA]
  have gW : rd false W (k : Int) = W[k] := by simp [rd, List.getD, List.getElem?_eq_getElem hltW]
  have c1 : ∀ {β : Type} (x : Option β), ck (0 ≤ (k : Int) ∧ (k : Int) < ((List.length W : Nat) : Int)) x = x := fun x => Z1 ⟨by omega, by omega⟩
  have c2 : ∀ {β : Type} (x : Option β), ck (0 ≤ (k : Int) ∧ (k : Int) < ((List.length A : Nat) : Int)) x = x := fun x => Z1 ⟨by omega, by omega⟩
  have c3 : ∀ {β : Type} (x : Option β), ck (InR (((k + 1 : Nat) : Int))) x = x := fun x => Zk (by omega) (by omega)
  rw [List.drop_eq_getElem_cons hlt, List.drop_eq_getElem_cons hltA, List.drop_eq_getElem_cons hltW]
  have step : Q9.s1 (A, (W, S)) l (l.length : Int) (k : Int) R E = some (.inl (((k + 1 : Nat) : Int), (match W[k] with
    | true => (R, mset l[k].2.2.2.1 true E)
    | false => (match A[k] && (Option.getD (mget l[k].2.2.2.1 S) false && !Option.getD (mget l[k].2.2.2.1 E) false) with
     | true => (mset l[k].2.2.2.1 (k : Int) R, E)
     | false => (R, E))))) := by
   simp only [Q9.s1]
   rw [decide_eq_true (by omega), cb_t, Z1 ⟨by omega, by omega⟩]
   simp only [Zm hlt, c1, gW, c2, gA, e, c3]
   cases W[k] with
   | true => rfl
   | false =>
    cases A[k] with
    | false => rfl
    | true =>
     cases Option.getD (mget l[k].2.2.2.1 S) false with
     | false => rfl
     | true =>
      cases Option.getD (mget l[k].2.2.2.1 E) false <;> rfl
  unfold Z15
  cases hw : W[k] with
  | true =>
   rw [hw] at step
   obtain ⟨E', h⟩ := ih (k + 1) R (mset l[k].2.2.2.1 true E) (by omega)
   exact ⟨E', (Z5 step).trans h⟩
  | false =>
   rw [hw] at step
   cases hb : (A[k] && (Option.getD (mget l[k].2.2.2.1 S) false && !Option.getD (mget l[k].2.2.2.1 E) false)) with
   | true =>
    rw [hb] at step
    obtain ⟨E', h⟩ := ih (k + 1) (mset l[k].2.2.2.1 (k : Int) R) E (by omega)
    exact ⟨E', (Z5 step).trans h⟩
   | false =>
    rw [hb] at step
    obtain ⟨E', h⟩ := ih (k + 1) R E (by omega)
    exact ⟨E', (Z5 step).trans h⟩
theorem Zio {l : List Cl} (hl : l.length ≤ 1000) {A W : List Bool} (hA : A.length = l.length) (hW : W.length = l.length) (S : MB) : Q9.f (A, (W, S)) l = some (Z15 S 0 l A W (Z39 (-1 : Int) S []) []) := by
 obtain ⟨E', h⟩ := Zg5 hl hA hW S _ 0 (Z39 (-1 : Int) S []) [] rfl
 rw [show ((0 : Nat) : Int) = 0 from rfl, List.drop_zero, List.drop_zero, List.drop_zero] at h
 unfold Q9.f
 simp only [Zg6, ob_s, h]
def Z53 (us : List ByteArray) (bad good : MB) : Bool := us.any fun u => Option.getD (mget u bad) false && !Option.getD (mget u good) false
theorem usLoopB {us : List ByteArray} (hu : us.length ≤ 1000) (bad good : MB) : ∀ (n k : Nat), us.length - k = n →
  ∃ r, Q4.l0 us (bad, good) (us.length : Int) (k : Int) = some r ∧ ((r = .inr () ∧ Z53 (us.drop k) bad good = false) ∨ ∃ j : Nat, r = .inl (j : Int) ∧ Z53 (us.drop k) bad good = true) := by
 intro n
 induction n with
 | zero =>
  intro k hk
  refine ⟨.inr (), Z2 ?_, .inl ⟨rfl, ?_⟩⟩
  ·simp only [Q4.s0, Z3]
   rw [if_neg (by omega)]
  ·rw [List.drop_eq_nil_of_le (by omega)]; rfl
 | succ n ih =>
  intro k hk
  have hlt : k < us.length := by omega
  have e : ((k : Int) + 1) = ((k + 1 : Nat) : Int) := by omega
  obtain ⟨r, h1, h2⟩ := ih (k + 1) (by omega)
  rw [List.drop_eq_getElem_cons hlt]
  have e1 : Q29.f us[k] bad good = some (Option.getD (mget us[k] bad) false && !Option.getD (mget us[k] good) false) := by
   unfold Q29.f
   cases Option.getD (mget us[k] bad) false <;> rfl
  have e2 : Z53 (us[k] :: us.drop (k + 1)) bad good = ((Option.getD (mget us[k] bad) false && !Option.getD (mget us[k] good) false) || Z53 (us.drop (k + 1)) bad good) := rfl
  rw [e2]
  cases hb : (Option.getD (mget us[k] bad) false && !Option.getD (mget us[k] good) false) with
  | true =>
   refine ⟨.inl (k : Int), Z2 ?_, .inr ⟨k, rfl, rfl⟩⟩
   simp only [Q4.s0]
   rw [decide_eq_true (by omega), cb_t, Z1 ⟨by omega, by omega⟩, Zm hlt]
   simp only [e1, hb, ob_s, cb_t]
  | false =>
   refine ⟨r, (Z5 ?_).trans h1, ?_⟩
   ·simp only [Q4.s0]
    rw [decide_eq_true (by omega), cb_t, Z1 ⟨by omega, by omega⟩, Zm hlt]
    simp only [e1, hb, ob_s, cb_f]
    rw [Zk (by omega) (by omega), e]
   ·simpa using h2
theorem uses_eq {us : List ByteArray} (hu : us.length ≤ 1000) (bad good : MB) : Qg.f us (bad, good) = some (Z53 us bad good) := by
 obtain ⟨r, h1, h2⟩ := usLoopB hu bad good _ 0 rfl
 rw [show ((0 : Nat) : Int) = 0 from rfl] at h1
 rw [List.drop_zero] at h2
 unfold Qg.f Q4.f
 simp only [h1, ob_s]
 rcases h2 with ⟨rfl, h3⟩ | ⟨j, rfl, h3⟩
 ·rw [h3]; rfl
 ·rw [h3]
  show some (decide ((0 : Int) ≤ (j : Int))) = _
  rw [decide_eq_true (by omega)]
def Z29 (R : MI) (k : Nat) (c : Cl) (a w : Bool) (bad good : MB) : Bool :=
 w || ((Option.isSome (mget c.2.2.2.1 R) && (!a && decide (Option.getD (mget c.2.2.2.1 R) 0 < (k : Int)))) || Z53 c.2.2.2.2.2.1 bad good)
def Z3s (R : MI) : Nat → List Cl → List Bool → List Bool → MB → MB → List Bool
 | k, c :: r, a :: A, w :: W, bad, good => Z29 R k c a w bad good :: (match Z29 R k c a w bad good with
  | true => Z3s R (k + 1) r A W (mset c.2.2.1 true bad) good
  | false => Z3s R (k + 1) r A W bad (mset c.2.2.1 true good))
 | _, _, _, _, _, _ => []
theorem Z3d (R : MI) (k : Nat) (c : Cl) (r : List Cl) (a w : Bool) (A W : List Bool) (bad good : MB) : Z3s R k (c :: r) (a :: A) (w :: W) bad good = Z29 R k c a w bad good :: (match Z29 R k c a w bad good with
  | true => Z3s R (k + 1) r A W (mset c.2.2.1 true bad) good
  | false => Z3s R (k + 1) r A W bad (mset c.2.2.1 true good)) := rfl
theorem Zfr {l : List Cl} (hl : l.length ≤ 1000) (hu : ∀ c ∈ l, c.2.2.2.2.2.1.length ≤ 1000) {A W : List Bool} (hA : A.length = l.length) (hW : W.length = l.length) (S : MB) (R : MI) : ∀ (n k : Nat) (o : List Bool) (bad good : MB), l.length - k = n → k ≤ l.length → o.length = l.length →
  ∃ b' g', Q16.l0 (A, (W, S)) R l (l.length : Int) (k : Int) o bad good = some (o.take k ++ Z3s R k (l.drop k) (A.drop k) (W.drop k) bad good, b', g') := by
 intro n
 induction n with
 | zero =>
  intro k o bad good hk hkl ho
  refine ⟨bad, good, Z2 ?_⟩
  simp only [Q16.s0, Z3]
  rw [if_neg (by omega), List.drop_eq_nil_of_le (by omega), List.take_of_length_le (by omega)]
  simp [Z3s]
 | succ n ih =>
  intro k o bad good hk hkl ho
  have hlt : k < l.length := by omega
  have hltA : k < A.length := by omega
  have hltW : k < W.length := by omega
  have e : ((k : Int) + 1) = ((k + 1 : Nat) : Int) := by omega
  have gA : rd false A (k : Int) = A[k] := by simp [rd, List.getD, List.getElem?_eq_getElem hltA]
  have gW : rd false W (k : Int) = W[k] := by simp [rd, List.getD, List.getElem?_eq_getElem hltW]
  have c1 : ∀ {β : Type} (x : Option β), ck (0 ≤ (k : Int) ∧ (k : Int) < ((List.length W : Nat) : Int)) x = x := fun x => Z1 ⟨by omega, by omega⟩
  have c2 : ∀ {β : Type} (x : Option β), ck (0 ≤ (k : Int) ∧ (k : Int) < ((List.length A : Nat) : Int)) x = x := fun x => Z1 ⟨by omega, by omega⟩
  have c3 : ∀ {β : Type} (x : Option β), ck (InR (((k + 1 : Nat) : Int))) x = x := fun x => Zk (by omega) (by omega)
  have c4 : ∀ {β : Type} (x : Option β), ck (0 ≤ (k : Int) ∧ (k : Int) < ((List.length o : Nat) : Int)) x = x := fun x => Z1 ⟨by omega, by omega⟩
  have c5 : ∀ {β : Type} (x : Option β), ck (k < List.length o) x = x := fun x => Z1 (by omega)
  have c6 : ∀ (v : Bool) {β : Type} (x : Option β), ck (0 ≤ (k : Int) ∧ (k : Int) < ((List.length (List.set o k v) : Nat) : Int)) x = x := fun v _ x => Z1 ⟨by omega, by rw [List.length_set]; omega⟩
  have c7 : ∀ (v : Bool) {β : Type} (x : Option β), ck (k < List.length (List.set o k v)) x = x := fun v _ x => Z1 (by rw [List.length_set]; omega)
  have gS : ∀ v : Bool, List.getD (List.set o k v) k false = v := fun v => by simp [List.getD, List.getElem?_set_self (show k < o.length by omega)]
  have hU := uses_eq (hu _ (List.getElem_mem hlt)) bad good
  rw [List.drop_eq_getElem_cons hlt, List.drop_eq_getElem_cons hltA, List.drop_eq_getElem_cons hltW]
  have step : Q16.s0 (A, (W, S)) R l (l.length : Int) (k : Int) o bad good = some (.inl (((k + 1 : Nat) : Int), o.set k (Z29 R k l[k] A[k] W[k] bad good), (match Z29 R k l[k] A[k] W[k] bad good with
    | true => (mset l[k].2.2.1 true bad, good)
    | false => (bad, mset l[k].2.2.1 true good)))) := by
   simp only [Q16.s0]
   rw [decide_eq_true (by omega), cb_t, Z1 ⟨by omega, by omega⟩]
   simp only [Zm hlt, c1, gW, c2, gA, e, c3, c4, Int.toNat_natCast, c5, c6, c7, gS, hU, ob_s]
   unfold Z29
   cases W[k] with
   | true => rfl
   | false =>
    cases Option.isSome (mget l[k].2.2.2.1 R) with
    | false =>
     cases Z53 l[k].2.2.2.2.2.1 bad good <;> rfl
    | true =>
     cases A[k] with
     | true => cases Z53 l[k].2.2.2.2.2.1 bad good <;> rfl
     | false =>
      cases decide (Option.getD (mget l[k].2.2.2.1 R) 0 < (k : Int)) with
      | true => rfl
      | false => cases Z53 l[k].2.2.2.2.2.1 bad good <;> rfl
  have ht : (o.set k (Z29 R k l[k] A[k] W[k] bad good)).take (k + 1) = o.take k ++ [Z29 R k l[k] A[k] W[k] bad good] := by
   rw [List.take_add_one, List.take_set_of_le (Nat.le_refl k), List.getElem?_set_self (by omega)]
   rfl
  cases hb : Z29 R k l[k] A[k] W[k] bad good with
  | true =>
   rw [hb] at step ht
   obtain ⟨b', g', h⟩ := ih (k + 1) (o.set k true) (mset l[k].2.2.1 true bad) good (by omega) (by omega) (by simp [ho])
   refine ⟨b', g', (Z5 step).trans (h.trans ?_)⟩
   rw [ht, Z3d, hb]
   simp
  | false =>
   rw [hb] at step ht
   obtain ⟨b', g', h⟩ := ih (k + 1) (o.set k false) bad (mset l[k].2.2.1 true good) (by omega) (by omega) (by simp [ho])
   refine ⟨b', g', (Z5 step).trans (h.trans ?_)⟩
   rw [ht, Z3d, hb]
   simp
end Go.Proofs.YtplgphblmeceoaaGreatDoor
set_option linter.unusedVariables false
set_option linter.unusedSimpArgs false
namespace Go.Proofs.YtplgphblmeceoaaGreatDoor
open Go Go.Lib Go.Proofs.YtplgphblmeceoaaGreatDoor.Eng
theorem Zbs {α : Type} (k : ByteArray) (v : α) : ∀ es : List (ByteArray × α), (Z1q k v es).length ≤ es.length + 1
 | [] => by simp [Z1q]
 | p :: r => by
  have := Zbs k v r
  unfold Z1q
  split <;> simp <;> omega
structure SGood (S : MB) : Prop where
 up : MUp S
 yes : ∀ p ∈ S, p.2 = true
theorem Zaa {l : List Cl} : ∀ (m : List Au) (t : Fc), SGood t.2.2 → SGood (fcs l m t).2.2 ∧ (fcs l m t).2.2.length ≤ t.2.2.length + m.length
 | [], t, h => ⟨h, Nat.le_refl _⟩
 | a :: r, t, h => by
  rw [Zab]
  cases hs : same l a with
  | true =>
   obtain ⟨h1, h2⟩ := Zaa r (t.1.set a.1.toNat true, t.2.1, t.2.2) h
   refine ⟨h1, Nat.le_trans h2 ?_⟩
   simp
  | false =>
   obtain ⟨h1, h2⟩ := Zaa (l := l) r (t.1.set a.1.toNat true, t.2.1.set a.1.toNat true, mset (rd C0 l a.1).2.2.2.1 true t.2.2) ⟨Zgg h.up, fun p hp => by
    rcases msetA_mem hp with rfl | hp
    ·rfl
    ·exact h.yes p hp⟩
   refine ⟨h1, Nat.le_trans h2 ?_⟩
   have := Zbs (rd C0 l a.1).2.2.2.1 true t.2.2
   simp only [List.length_cons]
   show (mset _ _ _).length + _ ≤ _
   unfold mset
   omega
theorem SGood.mem {S : MB} (h : SGood S) (x : ByteArray) : x ∈ S.map (fun p => p.1) ↔ Option.getD (mget x S) false = true := by
 constructor
 ·intro hx
  obtain ⟨p, hp, rfl⟩ := List.mem_map.1 hx
  have h1 := (mgetA_mem (k := p.1) h.up.nodup p.2).2 hp
  show Option.getD (Zz p.1 S) false = true
  rw [h1, h.yes p hp]; rfl
 ·intro hx
  cases hg : Zz x S with
  | none =>
   have hx : Option.getD (Zz x S) false = true := hx
   rw [hg] at hx; cases hx
  | some v => exact List.mem_map.2 ⟨(x, v), (mgetA_mem h.up.nodup v).1 hg, rfl⟩
theorem Z5v (R : MI) : ∀ (l : List Cl) (k : Nat) (A W : List Bool) (bad good : MB), A.length = l.length → W.length = l.length → (Z3s R k l A W bad good).length = l.length
 | [], k, A, W, _, _, _, _ => by simp [Z3s]
 | c :: r, k, [], W, _, _, h, _ => by simp at h
 | c :: r, k, a :: A, [], _, _, _, h => by simp at h
 | c :: r, k, a :: A, w :: W, bad, good, h1, h2 => by
  rw [Z3d]
  have e1 : A.length = r.length := by simpa using h1
  have e2 : W.length = r.length := by simpa using h2
  cases Z29 R k c a w bad good with
  | true => simp only [List.length_cons, Z5v R r (k + 1) A W _ _ e1 e2]
  | false => simp only [List.length_cons, Z5v R r (k + 1) A W _ _ e1 e2]
end Go.Proofs.YtplgphblmeceoaaGreatDoor
set_option linter.unusedVariables false
set_option linter.unusedSimpArgs false
namespace Go.Proofs.YtplgphblmeceoaaGreatDoor
open Go Go.Lib Go.Proofs.YtplgphblmeceoaaGreatDoor.Eng
noncomputable def fcs0 (l : List Cl) (m : List Au) : Fc := fcs l m (List.replicate l.length false, List.replicate l.length false, [])
noncomputable def Zg4 (l : List Cl) (m : List Au) : MI := Z15 (fcs0 l m).2.2 0 l (fcs0 l m).1 (fcs0 l m).2.1 (Z39 (-1 : Int) (fcs0 l m).2.2 []) []
noncomputable def Z8w (l : List Cl) (m : List Au) : List Bool := Z3s (Zg4 l m) 0 l (fcs0 l m).1 (fcs0 l m).2.1 [] []
theorem Zac (l : List Cl) (m : List Au) : (fcs0 l m).1.length = l.length ∧ (fcs0 l m).2.1.length = l.length := by
 have h := Zhe l m (List.replicate l.length false, List.replicate l.length false, [])
 unfold fcs0
 exact ⟨by rw [h.1]; simp, by rw [h.2]; simp⟩
theorem OkA.few {l : List Cl} {m : List Au} (hA : OkA l m) : ∀ c ∈ l, c.2.2.2.2.2.1.length ≤ 1000 := fun c hc => Nat.le_trans (hA.log.ok c hc).2.many (by decide)
theorem Zek {l : List Cl} {m : List Au} (hA : OkA l m) : Q16.f l m = some (Z8w l m) := by
 have hl := hA.log.len
 obtain ⟨h1, h2⟩ := Zac l m
 obtain ⟨b', g', h3⟩ := Zfr hl hA.few h1 h2 (fcs0 l m).2.2 (Zg4 l m) _ 0 (List.replicate l.length false) [] [] rfl (Nat.zero_le _) (by simp)
 rw [show ((0 : Nat) : Int) = 0 from rfl, List.drop_zero, List.drop_zero, List.drop_zero, List.take_zero, List.nil_append] at h3
 have h4 := Zio hl h1 h2 (fcs0 l m).2.2
 have hf : Qw.f l m = some ((fcs0 l m).1, ((fcs0 l m).2.1, (fcs0 l m).2.2)) := Zjf hA
 have hck : ∀ {β : Type} (a : Option β), ck (0 ≤ ((List.length l : Nat) : Int) ∧ ((List.length l : Nat) : Int) * (1 : Int) ≤ 140737488355328) a = a := fun a => Z1 ⟨by omega, by omega⟩
 unfold Q16.f
 simp only [hf, ob_s, h4, hck, Int.toNat_natCast]
 show ob (Q16.l0 _ (Zg4 l m) l (l.length : Int) 0 (List.replicate l.length false) [] []) _ = _
 rw [h3]
 rfl
theorem sgood (l : List Cl) (m : List Au) : SGood (fcs0 l m).2.2 ∧ (fcs0 l m).2.2.length ≤ m.length := by
 have h := Zaa (l := l) m (List.replicate l.length false, List.replicate l.length false, []) ⟨List.Pairwise.nil, fun p hp => by cases hp⟩
 refine ⟨h.1, Nat.le_trans h.2 ?_⟩
 simp
theorem susW {l : List Cl} {m : List Au} (hA : OkA l m) : SusW l (fcs0 l m) := Zhd m _ hA.num (by simp) (fun x => by
 constructor
 ·intro h; cases h
 ·rintro ⟨i, hi, h1, _⟩
  have h1 : (List.replicate l.length false)[i]? = some true := h1
  rw [List.getElem?_replicate] at h1
  split at h1 <;> cases h1)
end Go.Proofs.YtplgphblmeceoaaGreatDoor
set_option linter.unusedVariables false
set_option linter.unusedSimpArgs false
namespace Go.Proofs.YtplgphblmeceoaaGreatDoor
open Go Go.Lib Go.Proofs.YtplgphblmeceoaaGreatDoor.Eng
def gR (w : ByteArray) : Nat → List Cl → List Bool → List Bool → Int → Bool → Int
 | k, c :: r, a :: A, b :: W, g, e => match decide (c.2.2.2.1 = w) with
  | false => gR w (k + 1) r A W g e
  | true => (match b with
   | true => gR w (k + 1) r A W g true
   | false => (match a && !e with
    | true => gR w (k + 1) r A W (k : Int) e
    | false => gR w (k + 1) r A W g e))
 | _, _, _, _, g, _ => g
theorem Zh7 (w : ByteArray) (k : Nat) (c : Cl) (r : List Cl) (a b : Bool) (A W : List Bool) (g : Int) (e : Bool) : gR w k (c :: r) (a :: A) (b :: W) g e = (match decide (c.2.2.2.1 = w) with
  | false => gR w (k + 1) r A W g e
  | true => (match b with
   | true => gR w (k + 1) r A W g true
   | false => (match a && !e with
    | true => gR w (k + 1) r A W (k : Int) e
    | false => gR w (k + 1) r A W g e))) := rfl
theorem Zk6 (w : ByteArray) : ∀ (l : List Cl) (k : Nat) (A W : List Bool) (g : Int), gR w k l A W g true = g
 | [], _, _, _, _ => by simp [gR]
 | c :: r, k, [], _, _ => by simp [gR]
 | c :: r, k, a :: A, [], _ => by simp [gR]
 | c :: r, k, a :: A, b :: W, g => by
  have ih := Zk6 w r (k + 1) A W g
  unfold gR
  cases decide (c.2.2.2.1 = w) with
  | false => exact ih
  | true =>
   cases b with
   | true => exact ih
   | false =>
    rw [Bool.not_true, Bool.and_false]
    exact ih
theorem Z3m {S : MB} {w : ByteArray} (hs : Option.getD (mget w S) false = true) : ∀ (l : List Cl) (k : Nat) (A W : List Bool) (R : MI) (E : MB) (g : Int) (e : Bool), A.length = l.length → W.length = l.length → mget w R = some g → Option.getD (mget w E) false = e → mget w (Z15 S k l A W R E) = some (gR w k l A W g e)
 | [], k, A, W, R, E, g, e, _, _, h, _ => by simpa [Z15, gR] using h
 | c :: r, k, [], W, _, _, _, _, h, _, _, _ => by simp at h
 | c :: r, k, a :: A, [], _, _, _, _, _, h, _, _ => by simp at h
 | c :: r, k, a :: A, b :: W, R, E, g, e, h1, h2, hR, hE => by
  have e1 : A.length = r.length := by simpa using h1
  have e2 : W.length = r.length := by simpa using h2
  unfold Z15 gR
  by_cases hw : c.2.2.2.1 = w
  ·rw [decide_eq_true hw, hw, hs, hE]
   cases b with
   | true =>
    refine Z3m hs r (k + 1) A W R _ g true e1 e2 hR ?_
    rw [Z1r, if_pos rfl]; rfl
   | false =>
    rw [Bool.true_and]
    cases a && !e with
    | true =>
     refine Z3m hs r (k + 1) A W _ E (k : Int) e e1 e2 ?_ hE
     rw [Z1r, if_pos rfl]
    | false => exact Z3m hs r (k + 1) A W R E g e e1 e2 hR hE
  ·rw [decide_eq_false hw]
   cases b with
   | true =>
    refine Z3m hs r (k + 1) A W R _ g e e1 e2 hR ?_
    rw [Z1r, if_neg (fun h => hw h.symm)]; exact hE
   | false =>
    cases a && (Option.getD (mget c.2.2.2.1 S) false && !Option.getD (mget c.2.2.2.1 E) false) with
    | true =>
     refine Z3m hs r (k + 1) A W _ E g e e1 e2 ?_ hE
     rw [Z1r, if_neg (fun h => hw h.symm)]; exact hR
    | false => exact Z3m hs r (k + 1) A W R E g e e1 e2 hR hE
theorem Z3f {S : MB} {w : ByteArray} (hs : Option.getD (mget w S) false = false) : ∀ (l : List Cl) (k : Nat) (A W : List Bool) (R : MI) (E : MB), mget w R = none → mget w (Z15 S k l A W R E) = none
 | [], k, A, W, R, E, h => by simpa [Z15] using h
 | c :: r, k, [], W, R, E, h => by simpa [Z15] using h
 | c :: r, k, a :: A, [], R, E, h => by simpa [Z15] using h
 | c :: r, k, a :: A, b :: W, R, E, h => by
  unfold Z15
  cases b with
  | true => exact Z3f hs r (k + 1) A W R _ h
  | false =>
   cases hc : (a && (Option.getD (mget c.2.2.2.1 S) false && !Option.getD (mget c.2.2.2.1 E) false)) with
   | true =>
    refine Z3f hs r (k + 1) A W _ E ?_
    rw [Z1r, if_neg (fun e => by
     rw [← e, hs] at hc
     cases a <;> simp at hc)]
    exact h
   | false => exact Z3f hs r (k + 1) A W R E h
def WrAt (l : List Cl) (W : List Bool) (w : ByteArray) (j : Nat) : Prop := ∃ h : j < l.length, l[j].2.2.2.1 = w ∧ W[j]? = some true
theorem dbX0 {l : List Cl} (hl : l.length ≤ 1000) {S : Sta} (hS : S.2.1.length = l.length) {i : Nat} (hi : i < l.length) (x : Int) : ∀ (n k : Nat), l.length - k = n → ∃ r : Int, Q3.l0 l (i : Int) S l (l.length : Int) x (k : Int) = some r ∧
  ((r = x ∧ ∀ j, k ≤ j → ¬ WrAt l S.2.1 l[i].2.2.2.1 j) ∨ ∃ j : Nat, k ≤ j ∧ r = (j : Int) ∧ WrAt l S.2.1 l[i].2.2.2.1 j ∧ ∀ q, k ≤ q → q < j → ¬ WrAt l S.2.1 l[i].2.2.2.1 q) := by
 intro n
 induction n with
 | zero =>
  intro k hk
  refine ⟨x, Z2 ?_, .inl ⟨rfl, fun j hj ⟨h, _⟩ => by omega⟩⟩
  simp only [Q3.s0, Z3]
  rw [if_neg (by omega)]
 | succ n ih =>
  intro k hk
  have hlt : k < l.length := by omega
  have hltW : k < S.2.1.length := by omega
  have e : ((k : Int) + 1) = ((k + 1 : Nat) : Int) := by omega
  have gW : rd false S.2.1 (k : Int) = S.2.1[k] := by simp [rd, List.getD, List.getElem?_eq_getElem hltW]
  have key : Q3.s0 l (i : Int) S l (l.length : Int) x (k : Int) = (match decide (l[k].2.2.2.1 = l[i].2.2.2.1) && S.2.1[k] with
    | true => some (.inr (k : Int))
    | false => some (.inl (x, ((k + 1 : Nat) : Int)))) := by
   simp only [Q3.s0]
   rw [decide_eq_true (by omega), cb_t, Z1 ⟨by omega, by omega⟩, Z1 ⟨by omega, by omega⟩, Z1 ⟨by omega, by omega⟩, Zk (by omega) (by omega), e]
   simp only [Zm hlt, Zm hi, gW]
   cases decide (l[k].2.2.2.1 = l[i].2.2.2.1) <;> cases S.2.1[k] <;> rfl
  cases hc : (decide (l[k].2.2.2.1 = l[i].2.2.2.1) && S.2.1[k]) with
  | true =>
   rw [hc] at key
   rw [Bool.and_eq_true] at hc
   refine ⟨(k : Int), Z2 key, .inr ⟨k, Nat.le_refl _, rfl, ⟨hlt, of_decide_eq_true hc.1, by rw [List.getElem?_eq_getElem hltW, hc.2]⟩, fun q h1 h2 => by omega⟩⟩
  | false =>
   rw [hc] at key
   have hno : ¬ WrAt l S.2.1 l[i].2.2.2.1 k := fun ⟨_, h1, h2⟩ => by
    rw [List.getElem?_eq_getElem hltW] at h2
    rw [decide_eq_true h1, Option.some.inj h2] at hc
    cases hc
   obtain ⟨r, h1, h2⟩ := ih (k + 1) (by omega)
   refine ⟨r, (Z5 key).trans h1, ?_⟩
   have hq : ∀ q, k ≤ q → (k + 1 ≤ q → ¬ WrAt l S.2.1 l[i].2.2.2.1 q) → ¬ WrAt l S.2.1 l[i].2.2.2.1 q := fun q h3 h4 => by
    rcases Nat.eq_or_lt_of_le h3 with h5 | h5
    ·subst h5; exact hno
    ·exact h4 h5
   rcases h2 with ⟨h2, h3⟩ | ⟨j, h2, h3, h4, h5⟩
   ·exact .inl ⟨h2, fun j hj => hq j hj fun h => h3 j h⟩
   ·exact .inr ⟨j, by omega, h3, h4, fun q h6 h7 => hq q h6 fun h => h5 q h h7⟩
theorem dbX1 {l : List Cl} (hl : l.length ≤ 1000) {S : Sta} (hA : S.1.length = l.length) (hS : S.2.1.length = l.length) {i : Nat} (hi : i < l.length) {j : Nat} (hj : WrAt l S.2.1 l[i].2.2.2.1 j) : ∀ (n k : Nat) (x : Int), j - k = n → k ≤ j → (∀ q, k ≤ q → q < j → ¬ WrAt l S.2.1 l[i].2.2.2.1 q) →
  Q3.l1 l (i : Int) S (j : Int) x (k : Int) = some (gR l[i].2.2.2.1 k (l.drop k) (S.1.drop k) (S.2.1.drop k) x false) := by
 obtain ⟨hjl, hj1, hj2⟩ := hj
 intro n
 induction n with
 | zero =>
  intro k x hk hkj hno
  have hkj' : k = j := by omega
  subst hkj'
  have hltA : k < S.1.length := by omega
  have hltW : k < S.2.1.length := by omega
  have hb : S.2.1[k] = true := by rw [List.getElem?_eq_getElem hltW] at hj2; exact Option.some.inj hj2
  refine Z2 ?_
  rw [List.drop_eq_getElem_cons hjl, List.drop_eq_getElem_cons hltA, List.drop_eq_getElem_cons hltW]
  rw [Zh7]
  rw [decide_eq_true hj1, hb]
  simp only [Q3.s1, Z3]
  rw [if_neg (by omega), Zk6]
 | succ n ih =>
  intro k x hk hkj hno
  have hlt : k < l.length := by omega
  have hltA : k < S.1.length := by omega
  have hltW : k < S.2.1.length := by omega
  have e : ((k : Int) + 1) = ((k + 1 : Nat) : Int) := by omega
  have gW : rd false S.2.1 (k : Int) = S.2.1[k] := by simp [rd, List.getD, List.getElem?_eq_getElem hltW]
  have gA : rd false S.1 (k : Int) = S.1[k] := by simp [rd, List.getD, List.getElem?_eq_getElem hltA]
  have hn := hno k (Nat.le_refl _) (by omega)
  rw [List.drop_eq_getElem_cons hlt, List.drop_eq_getElem_cons hltA, List.drop_eq_getElem_cons hltW]
  have key : Q3.s1 l (i : Int) S (j : Int) x (k : Int) = some (.inl ((match decide (l[k].2.2.2.1 = l[i].2.2.2.1) && (S.1[k] && !S.2.1[k]) with | true => (k : Int) | false => x), ((k + 1 : Nat) : Int))) := by
   simp only [Q3.s1]
   rw [decide_eq_true (by omega), cb_t, Z1 ⟨by omega, by omega⟩, Z1 ⟨by omega, by omega⟩, Z1 ⟨by omega, by omega⟩, Z1 ⟨by omega, by omega⟩, Zk (by omega) (by omega), Zk (by omega) (by omega), e]
   simp only [Zm hlt, Zm hi, gW, gA]
   cases decide (l[k].2.2.2.1 = l[i].2.2.2.1) <;> cases S.1[k] <;> cases S.2.1[k] <;> rfl
  have h2 := fun y => ih (k + 1) y (by omega) (by omega) (fun q h1 h2 => hno q (by omega) h2)
  refine ((Z5 key).trans (h2 _)).trans ?_
  rw [Zh7]
  by_cases hw : l[k].2.2.2.1 = l[i].2.2.2.1
  ·have hb : S.2.1[k] = false := by
    cases hb : S.2.1[k] with
    | false => rfl
    | true => exact absurd ⟨hlt, hw, by rw [List.getElem?_eq_getElem hltW, hb]⟩ hn
   rw [decide_eq_true hw, hb]
   cases S.1[k] <;> rfl
  ·rw [decide_eq_false hw]
   rfl
theorem Zdi {l : List Cl} (hl : l.length ≤ 1000) {S : Sta} (hA : S.1.length = l.length) (hS : S.2.1.length = l.length) {M : MB} (hM : SusW l (S.1, (S.2.1, M))) (hG : SGood M) {i : Nat} (hi : i < l.length) :
  Q3.f S l (i : Int) = some (Option.isSome (mget l[i].2.2.2.1 (Z15 M 0 l S.1 S.2.1 (Z39 (-1 : Int) M []) [])) && (!rd false S.1 (i : Int) && decide (Option.getD (mget l[i].2.2.2.1 (Z15 M 0 l S.1 S.2.1 (Z39 (-1 : Int) M []) [])) 0 < (i : Int)))) := by
 have hsus : Option.getD (mget l[i].2.2.2.1 M) false = true ↔ ∃ j, WrAt l S.2.1 l[i].2.2.2.1 j := by
  rw [show (Option.getD (mget l[i].2.2.2.1 M) false = true ↔ _) from hM l[i].2.2.2.1]
  exact ⟨fun ⟨j, h, h1, h2⟩ => ⟨j, h, h2, h1⟩, fun ⟨j, h, h1, h2⟩ => ⟨j, h, h2, h1⟩⟩
 unfold Q3.f
 rw [Z1 ⟨by omega, by omega⟩]
 obtain ⟨r, h1, h2⟩ := dbX0 hl hS hi (-1) _ 0 rfl
 rw [show ((0 : Nat) : Int) = 0 from rfl] at h1
 rcases h2 with ⟨rfl, h2⟩ | ⟨j, _, rfl, h3, h4⟩
 ·have hs : Option.getD (mget l[i].2.2.2.1 M) false = false := by
   cases h : Option.getD (mget l[i].2.2.2.1 M) false with
   | false => rfl
   | true =>
    obtain ⟨j, hj⟩ := hsus.1 h
    exact absurd hj (h2 j (Nat.zero_le _))
  have hn : mget l[i].2.2.2.1 (Z15 M 0 l S.1 S.2.1 (Z39 (-1 : Int) M []) []) = none := by
   refine Z3f hs l 0 _ _ _ _ ?_
   rw [Z46, if_neg (fun h => by rw [(hG.mem _).1 h] at hs; cases hs)]
   rfl
  rw [hn]
  cases rd false S.1 (i : Int) with
  | true => rfl
  | false =>
   obtain ⟨q, hq⟩ := dbLoop1 hl hA hS hi (r := -1) (by omega) _ 0 (-1) rfl
   rw [show ((0 : Nat) : Int) = 0 from rfl] at hq
   simp only [cb_f, h1, ob_s, hq]
   rfl
 ·have hs : Option.getD (mget l[i].2.2.2.1 M) false = true := hsus.2 ⟨j, h3⟩
  have hn : mget l[i].2.2.2.1 (Z15 M 0 l S.1 S.2.1 (Z39 (-1 : Int) M []) []) = some (gR l[i].2.2.2.1 0 l S.1 S.2.1 (-1) false) := by
   refine Z3m hs l 0 _ _ _ _ (-1) false hA hS ?_ rfl
   rw [Z46, if_pos ((hG.mem _).2 hs)]
  have h5 := dbX1 hl hA hS hi h3 _ 0 (-1) rfl (Nat.zero_le _) h4
  rw [show ((0 : Nat) : Int) = 0 from rfl, List.drop_zero, List.drop_zero, List.drop_zero] at h5
  rw [hn]
  cases rd false S.1 (i : Int) with
  | true => rfl
  | false =>
   simp only [cb_f, h1, ob_s, h5, Option.isSome_some, Option.getD_some, Bool.not_false, Bool.true_and]
   rw [decide_eq_true (by omega)]
   rfl
end Go.Proofs.YtplgphblmeceoaaGreatDoor
set_option linter.unusedVariables false
set_option linter.unusedSimpArgs false
namespace Go.Proofs.YtplgphblmeceoaaGreatDoor
open Go Go.Lib Go.Proofs.YtplgphblmeceoaaGreatDoor.Eng
def accB (u : ByteArray) : Nat → List Cl → List Bool → Bool → Bool → Bool × Bool
 | n + 1, c :: r, t :: T, x, y => (match decide (c.2.2.1 = u) with
  | true => accB u n r T (x || t) (y || !t)
  | false => accB u n r T x y)
 | _, _, _, x, y => (x, y)
theorem Z2n (u : ByteArray) (l : List Cl) (T : List Bool) (x y : Bool) : accB u 0 l T x y = (x, y) := by
 cases l <;> cases T <;> rfl
theorem Z3a (u : ByteArray) (n : Nat) (c : Cl) (r : List Cl) (t : Bool) (T : List Bool) (x y : Bool) : accB u (n + 1) (c :: r) (t :: T) x y = (match decide (c.2.2.1 = u) with
  | true => accB u n r T (x || t) (y || !t)
  | false => accB u n r T x y) := rfl
theorem Z8k (u : ByteArray) : ∀ (n : Nat) (l : List Cl) (T : List Bool) (x y : Bool) (h1 : n < l.length) (h2 : n < T.length), accB u (n + 1) l T x y = (match decide (l[n].2.2.1 = u) with
  | true => ((accB u n l T x y).1 || T[n], (accB u n l T x y).2 || !T[n])
  | false => accB u n l T x y)
 | n, [], _, _, _, h, _ => by simp at h
 | n, c :: r, [], _, _, _, h => by simp at h
 | 0, c :: r, t :: T, x, y, _, _ => by
  rw [Z3a, Z2n]
  show _ = (match decide (c.2.2.1 = u) with | true => (x || t, y || !t) | false => (x, y))
  cases decide (c.2.2.1 = u) with
  | true => exact Z2n u r T _ _
  | false => exact Z2n u r T _ _
 | n + 1, c :: r, t :: T, x, y, h1, h2 => by
  have k1 : n < r.length := by simpa using h1
  have k2 : n < T.length := by simpa using h2
  rw [Z3a, Z3a]
  cases hc : decide (c.2.2.1 = u) with
  | true => exact Z8k u n r T _ _ k1 k2
  | false => exact Z8k u n r T _ _ k1 k2
theorem Z6d (u : ByteArray) : ∀ (n : Nat) (l : List Cl) (T T' : List Bool) (x y : Bool), T.length = T'.length → T.take n = T'.take n → accB u n l T x y = accB u n l T' x y
 | 0, l, T, T', x, y, _, _ => by rw [Z2n, Z2n]
 | n + 1, [], T, T', x, y, _, _ => by simp [accB]
 | n + 1, c :: r, [], T', x, y, h, _ => by
  have : T' = [] := List.eq_nil_of_length_eq_zero (by simpa using h.symm)
  rw [this]
 | n + 1, c :: r, t :: T, [], x, y, h, _ => by simp at h
 | n + 1, c :: r, t :: T, t' :: T', x, y, h, h2 => by
  rw [List.take_succ_cons, List.take_succ_cons] at h2
  injection h2 with h3 h4
  subst h3
  rw [Z3a, Z3a, Z6d u n r T T' _ _ (by simpa using h) h4, Z6d u n r T T' _ _ (by simpa using h) h4]
theorem usX1 {l : List Cl} (hl : l.length ≤ 1000) {S : Sta} (hS : S.2.2.1.length = l.length) {i : Nat} (hi : i ≤ l.length) (u : ByteArray) : ∀ (n k : Nat) (x y : Bool), i - k = n → k ≤ i → Qa.l1 l S u (i : Int) x y (k : Int) = some (accB u (i - k) (l.drop k) (S.2.2.1.drop k) x y) := by
 intro n
 induction n with
 | zero =>
  intro k x y hk hki
  refine Z2 ?_
  simp only [Qa.s1, Z3]
  rw [if_neg (by omega), hk, Z2n]
 | succ n ih =>
  intro k x y hk hki
  have hlt : k < l.length := by omega
  have hltT : k < S.2.2.1.length := by omega
  have e : ((k : Int) + 1) = ((k + 1 : Nat) : Int) := by omega
  have gT : rd false S.2.2.1 (k : Int) = S.2.2.1[k] := by simp [rd, List.getD, List.getElem?_eq_getElem hltT]
  have en : i - k = (i - (k + 1)) + 1 := by omega
  rw [List.drop_eq_getElem_cons hlt, List.drop_eq_getElem_cons hltT, en, Z3a]
  have hc : ∀ {β : Type} (a : Option β), ck (0 ≤ (k : Int) ∧ (k : Int) < ((List.length S.2.2.1 : Nat) : Int)) a = a := fun a => Z1 ⟨by omega, by omega⟩
  have hi2 : ∀ {β : Type} (a : Option β), ck (InR ((k : Int) + 1)) a = a := fun a => Zk (by omega) (by omega)
  have key : Qa.s1 l S u (i : Int) x y (k : Int) = some (.inl (match decide (l[k].2.2.1 = u) with
    | true => ((x || S.2.2.1[k]), (y || !S.2.2.1[k]), ((k + 1 : Nat) : Int))
    | false => (x, y, ((k + 1 : Nat) : Int)))) := by
   simp only [Qa.s1]
   rw [decide_eq_true (by omega), cb_t, Z1 ⟨by omega, by omega⟩]
   simp only [hc, hi2, Zm hlt, gT]
   simp only [e]
   cases decide (l[k].2.2.1 = u) <;> cases x <;> cases y <;> cases S.2.2.1[k] <;> rfl
  cases hd : decide (l[k].2.2.1 = u) with
  | true =>
   rw [hd] at key
   exact (Z5 key).trans (ih (k + 1) _ _ (by omega) (by omega))
  | false =>
   rw [hd] at key
   exact (Z5 key).trans (ih (k + 1) _ _ (by omega) (by omega))
def Bears (l : List Cl) (T : List Bool) (n : Nat) (bad good : MB) : Prop := ∀ u, accB u n l T false false = (Option.getD (mget u bad) false, Option.getD (mget u good) false)
theorem usX0 {l : List Cl} (hl : l.length ≤ 1000) {S : Sta} (hS : S.2.2.1.length = l.length) {i : Nat} (hi : i ≤ l.length) {bad good : MB} (hb : Bears l S.2.2.1 i bad good) {us : List ByteArray} (hu : us.length ≤ 1000) : ∀ (n k : Nat), us.length - k = n →
  ∃ q, Qa.l0 l (i : Int) S us (us.length : Int) (k : Int) = some q ∧ ((q = .inl true ∧ Z53 (us.drop k) bad good = true) ∨ (q = .inr () ∧ Z53 (us.drop k) bad good = false)) := by
 intro n
 induction n with
 | zero =>
  intro k hk
  refine ⟨.inr (), Z2 ?_, .inr ⟨rfl, ?_⟩⟩
  ·simp only [Qa.s0, Z3]
   rw [if_neg (by omega)]
  ·rw [List.drop_eq_nil_of_le (by omega)]; rfl
 | succ n ih =>
  intro k hk
  have hlt : k < us.length := by omega
  have e : ((k : Int) + 1) = ((k + 1 : Nat) : Int) := by omega
  obtain ⟨q, hq, h2⟩ := ih (k + 1) (by omega)
  have hp := usX1 hl hS hi us[k] _ 0 false false rfl (Nat.zero_le _)
  rw [show ((0 : Nat) : Int) = 0 from rfl, List.drop_zero, List.drop_zero, Nat.sub_zero, hb us[k]] at hp
  rw [List.drop_eq_getElem_cons hlt]
  have e2 : Z53 (us[k] :: us.drop (k + 1)) bad good = ((Option.getD (mget us[k] bad) false && !Option.getD (mget us[k] good) false) || Z53 (us.drop (k + 1)) bad good) := rfl
  rw [e2]
  have key : Qa.s0 l (i : Int) S us (us.length : Int) (k : Int) = (match Option.getD (mget us[k] bad) false && !Option.getD (mget us[k] good) false with
    | true => some (.inr (.inl true))
    | false => some (.inl ((k + 1 : Nat) : Int))) := by
   simp only [Qa.s0]
   rw [decide_eq_true (by omega), cb_t, Z1 ⟨by omega, by omega⟩, Zm hlt, hp, ob_s, Zk (by omega) (by omega), e]
   cases Option.getD (mget us[k] bad) false <;> cases Option.getD (mget us[k] good) false <;> rfl
  cases hc : (Option.getD (mget us[k] bad) false && !Option.getD (mget us[k] good) false) with
  | true =>
   rw [hc] at key
   exact ⟨_, Z2 key, .inl ⟨rfl, rfl⟩⟩
  | false =>
   rw [hc] at key
   exact ⟨q, (Z5 key).trans hq, h2⟩
theorem Zie {l : List Cl} (hl : l.length ≤ 1000) {S : Sta} (hS : S.2.2.1.length = l.length) {i : Nat} (hi : i < l.length) {bad good : MB} (hb : Bears l S.2.2.1 i bad good) (hu : l[i].2.2.2.2.2.1.length ≤ 1000) : Qa.f S l (i : Int) = some (Z53 l[i].2.2.2.2.2.1 bad good) := by
 unfold Qa.f
 rw [Z1 ⟨by omega, by omega⟩, Zm hi]
 obtain ⟨q, h, h2⟩ := usX0 hl hS (by omega : i ≤ l.length) hb hu _ 0 rfl
 rw [show ((0 : Nat) : Int) = 0 from rfl] at h
 rw [List.drop_zero] at h2
 simp only [h, ob_s]
 rcases h2 with ⟨rfl, h2⟩ | ⟨rfl, h2⟩
 ·rw [h2]; rfl
 ·rw [h2]; rfl
theorem Bears.step {l : List Cl} {T : List Bool} {n : Nat} {bad good : MB} (h : Bears l T n bad good) (h1 : n < l.length) (h2 : n < T.length) (b : Bool) : Bears l (T.set n b) (n + 1) (match b with | true => mset l[n].2.2.1 true bad | false => bad) (match b with | true => good | false => mset l[n].2.2.1 true good) := fun u => by
 have hs : n < (T.set n b).length := by simpa using h2
 rw [Z8k u n l (T.set n b) false false h1 hs, Z6d u n l (T.set n b) T false false (by simp) (List.take_set_of_le (Nat.le_refl n)), h u, List.getElem_set_self]
 by_cases hu : l[n].2.2.1 = u
 ·rw [decide_eq_true hu]
  cases b with
  | true =>
   show _ = (Option.getD (mget u (mset l[n].2.2.1 true bad)) false, _)
   rw [Z1r, if_pos hu.symm]
   simp
  | false =>
   show _ = (_, Option.getD (mget u (mset l[n].2.2.1 true good)) false)
   rw [Z1r, if_pos hu.symm]
   simp
 ·rw [decide_eq_false hu]
  cases b with
  | true =>
   show _ = (Option.getD (mget u (mset l[n].2.2.1 true bad)) false, _)
   rw [Z1r, if_neg (fun e => hu e.symm)]
  | false =>
   show _ = (_, Option.getD (mget u (mset l[n].2.2.1 true good)) false)
   rw [Z1r, if_neg (fun e => hu e.symm)]
theorem stX2 {l : List Cl} (hl : l.length ≤ 1000) (hu : ∀ c ∈ l, c.2.2.2.2.2.1.length ≤ 1000) {a w : List Bool} (ha : a.length = l.length) (hw : w.length = l.length) {M : MB} (hM : SusW l (a, (w, M))) (hG : SGood M) (o5 o6 : List ByteArray) : ∀ (n k : Nat) (t : List Bool) (bad good : MB), l.length - k = n → k ≤ l.length → t.length = l.length → Bears l t k bad good →
  Q1.l2 l (l.length : Int) (k : Int) a w t o5 o6 = some (a, w, t.take k ++ Z3s (Z15 M 0 l a w (Z39 (-1 : Int) M []) []) k (l.drop k) (a.drop k) (w.drop k) bad good, o5, o6) := by
 intro n
 induction n with
 | zero =>
  intro k t bad good hk hkl ht hb
  refine Z2 ?_
  simp only [Q1.s2, Z3]
  rw [if_neg (by omega), List.drop_eq_nil_of_le (by omega), List.take_of_length_le (by omega)]
  simp [Z3s]
 | succ n ih =>
  intro k t bad good hk hkl ht hb
  have hlt : k < l.length := by omega
  have hlta : k < a.length := by omega
  have hltw : k < w.length := by omega
  have e : ((k : Int) + 1) = ((k + 1 : Nat) : Int) := by omega
  have gA : rd false a (k : Int) = a[k] := by simp [rd, List.getD, List.getElem?_eq_getElem hlta]
  have gW : List.getD w k false = w[k] := by simp [List.getD, List.getElem?_eq_getElem hltw]
  have h1 := Zdi hl (S := (a, (w, (t, o6)))) ha hw hM hG hlt
  have h2 := Zie hl (S := (a, (w, (t, o6)))) ht hlt hb (hu _ (List.getElem_mem hlt))
  rw [gA] at h1
  rw [List.drop_eq_getElem_cons hlt, List.drop_eq_getElem_cons hlta, List.drop_eq_getElem_cons hltw]
  have key : Q1.s2 l (l.length : Int) (k : Int) a w t o5 o6 = some (.inl (((k + 1 : Nat) : Int), a, w, t.set k (Z29 (Z15 M 0 l a w (Z39 (-1 : Int) M []) []) k l[k] a[k] w[k] bad good), o5, o6)) := by
   simp only [Q1.s2]
   rw [decide_eq_true (by omega), cb_t, Z1 ⟨by omega, by omega⟩, Int.toNat_natCast, Z1 (by omega), h1, h2]
   have hc : ∀ {β : Type} (x : Option β), ck (0 ≤ (k : Int) ∧ (k : Int) < ((List.length t : Nat) : Int)) x = x := fun x => Z1 ⟨by omega, by omega⟩
   have hc2 : ∀ {β : Type} (x : Option β), ck (k < List.length t) x = x := fun x => Z1 (by omega)
   have hi2 : ∀ {β : Type} (x : Option β), ck (InR ((k : Int) + 1)) x = x := fun x => Zk (by omega) (by omega)
   simp only [hc, hc2, hi2, ob_s, gW]
   simp only [e]
   unfold Z29
   cases w[k] with
   | true => rfl
   | false =>
    cases (Option.isSome (mget l[k].2.2.2.1 (Z15 M 0 l a w (Z39 (-1 : Int) M []) [])) && (!a[k] && decide (Option.getD (mget l[k].2.2.2.1 (Z15 M 0 l a w (Z39 (-1 : Int) M []) [])) 0 < (k : Int)))) with
    | true => rfl
    | false => rfl
  have hlen : ∀ b : Bool, (t.set k b).length = l.length := fun b => by simp [ht]
  have htk : ∀ b : Bool, (t.set k b).take (k + 1) = t.take k ++ [b] := fun b => by
   rw [List.take_add_one, List.take_set_of_le (Nat.le_refl k), List.getElem?_set_self (by omega)]
   rfl
  have hst := hb.step hlt (by omega) (Z29 (Z15 M 0 l a w (Z39 (-1 : Int) M []) []) k l[k] a[k] w[k] bad good)
  rw [Z3d]
  cases hv : Z29 (Z15 M 0 l a w (Z39 (-1 : Int) M []) []) k l[k] a[k] w[k] bad good with
  | true =>
   rw [hv] at key hst
   refine ((Z5 key).trans (ih (k + 1) _ _ _ (by omega) (by omega) (hlen _) hst)).trans ?_
   rw [htk]
   simp
  | false =>
   rw [hv] at key hst
   refine ((Z5 key).trans (ih (k + 1) _ _ _ (by omega) (by omega) (hlen _) hst)).trans ?_
   rw [htk]
   simp
theorem Zem {l : List Cl} {m : List Au} (hA : OkA l m) : Q1.f l m = some ((fcs0 l m).1, ((fcs0 l m).2.1, (Z8w l m, Z1w (Z4m (wrs l (fcs0 l m).2.1))))) := by
 have hl := hA.log.len
 obtain ⟨ha, hw⟩ := Zac l m
 have h0 := stLoop0 (l := l) hA.len hA.num (List.replicate l.length false) [] _ 0 (List.replicate l.length false) (List.replicate l.length false) [] rfl (by simp) (by simp)
 rw [show ((0 : Nat) : Int) = 0 from rfl, List.drop_zero] at h0
 have h1 := stLoop1 hl (a := (fcs0 l m).1) (t := List.replicate l.length false) hw [] _ 0 [] rfl (by simp)
 rw [show ((0 : Nat) : Int) = 0 from rfl, List.drop_zero, List.drop_zero, List.nil_append] at h1
 generalize hX : wrs l (fcs0 l m).2.1 = X at h1
 have hXl : X.length ≤ 1000000000 := by rw [← hX]; have := wrs_len l (fcs0 l m).2.1; omega
 have r1 := run47 hXl
 have r2 := run48 (xs := Z4m X) (by rw [Zfy]; exact hXl)
 have r3 : List.take (List.length (Z1w (Z4m X))) (Z1w (Z4m X) ++ List.replicate ((Z4m X).length - (Z1w (Z4m X)).length) ByteArray.empty) = Z1w (Z4m X) := List.take_left' rfl
 have h2 := stX2 hl hA.few ha hw (susW hA) (sgood l m).1 [] (Z1w (Z4m X)) _ 0 (List.replicate l.length false) [] [] rfl (Nat.zero_le _) (by simp) (fun u => by rw [Z2n]; rfl)
 rw [show ((0 : Nat) : Int) = 0 from rfl, List.drop_zero, List.drop_zero, List.drop_zero, List.take_zero, List.nil_append] at h2
 have hck : ∀ {β : Type} (a : Option β), ck (0 ≤ ((List.length l : Nat) : Int) ∧ ((List.length l : Nat) : Int) * (1 : Int) ≤ 140737488355328) a = a := fun a => Z1 ⟨by omega, by omega⟩
 have hs1 : ∀ {β γ : Type} (x : γ) (a : Option β), ck (Option.isSome (some x) = true) a = a := fun x a => Z1 rfl
 rw [show fcs l m (List.replicate l.length false, List.replicate l.length false, []) = fcs0 l m from rfl] at h0
 unfold Q1.f
 simp only [mix_eq, hck, Int.toNat_natCast, h0, ob_s, h1, r1, hs1, Option.getD_some, r2, r3, h2, Z8g]
 first | done | rfl
end Go.Proofs.YtplgphblmeceoaaGreatDoor
set_option linter.unusedVariables false
set_option linter.unusedSimpArgs false
namespace Go.Proofs.YtplgphblmeceoaaGreatDoor
open Go Go.Lib Go.Proofs.YtplgphblmeceoaaGreatDoor.Eng
abbrev MS : Type := List (ByteArray × Sc)
abbrev SC0 : Sc := (ByteArray.empty, ((0 : Int), (0 : Int)))
def one (b : Bool) : Int := match b with | true => 1 | false => 0
def upS (M : MS) (w : ByteArray) (a b : Bool) : MS := mset w (w, ((Option.getD (mget w M) SC0).2.1 + one a, (Option.getD (mget w M) SC0).2.2 + one b)) M
def Few (M : MS) (k : Nat) : Prop := ∀ u, 0 ≤ (Option.getD (mget u M) SC0).2.1 ∧ (Option.getD (mget u M) SC0).2.1 ≤ (k : Int) ∧ 0 ≤ (Option.getD (mget u M) SC0).2.2 ∧ (Option.getD (mget u M) SC0).2.2 ≤ (k : Int)
theorem Zk2 (b : Bool) : 0 ≤ one b ∧ one b ≤ 1 := by cases b <;> decide
theorem Few.step {M : MS} {k : Nat} (h : Few M k) (w : ByteArray) (a b : Bool) : Few (upS M w a b) (k + 1) := fun u => by
 have h1 := h u
 have h2 := h w
 have ha := Zk2 a
 have hb := Zk2 b
 unfold upS
 rw [Z1r]
 by_cases hu : u = w
 ·rw [if_pos hu]
  simp only [Option.getD_some]
  omega
 ·rw [if_neg hu]
  omega
end Go.Proofs.YtplgphblmeceoaaGreatDoor
set_option linter.unusedVariables false
set_option linter.unusedSimpArgs false
namespace Go.Proofs.YtplgphblmeceoaaGreatDoor
open Go Go.Lib Go.Proofs.YtplgphblmeceoaaGreatDoor.Eng
end Go.Proofs.YtplgphblmeceoaaGreatDoor
set_option linter.unusedVariables false
set_option linter.unusedSimpArgs false
set_option maxRecDepth 10000
namespace Go.Proofs.YtplgphblmeceoaaGreatDoor
open Go Go.Proofs.YtplgphblmeceoaaGreatDoor.Eng
def dayN (m : List Au) (t : Int) : Nat := (m.takeWhile fun a => decide (a.2.2 ≤ t)).length
theorem dayN_le (m : List Au) (t : Int) : dayN m t ≤ m.length := by
 unfold dayN
 exact (List.takeWhile_prefix _).length_le
theorem Zca (a : Au) (m : List Au) (t : Int) : dayN (a :: m) t = if a.2.2 ≤ t then dayN m t + 1 else 0 := by
 unfold dayN
 by_cases h : a.2.2 ≤ t
 ·rw [List.takeWhile_cons_of_pos (by simpa using h), if_pos h]; rfl
 ·rw [List.takeWhile_cons_of_neg (by simpa using h), if_neg h]; rfl
theorem Zjm {m : List Au} (hm : m.length ≤ 1000) (t : Int) : ∀ (n k : Nat), m.length - k = n → Qb.l0 m t (k : Int) = some (((k + dayN (m.drop k) t : Nat)) : Int) := by
 intro n
 induction n with
 | zero =>
  intro k hk
  rw [List.drop_eq_nil_of_le (by omega)]
  refine Z2 ?_
  simp only [Qb.s0, Z3]
  rw [if_neg (by omega)]
  rfl
 | succ n ih =>
  intro k hk
  have hlt : k < m.length := by omega
  rw [List.drop_eq_getElem_cons hlt, Zca]
  by_cases h : m[k].2.2 ≤ t
  ·rw [if_pos h]
   refine (Z5 (x' := ((k + 1 : Nat) : Int)) ?_).trans ((ih (k + 1) (by omega)).trans ?_)
   ·simp only [Qb.s0, Z3]
    rw [if_pos (by omega), Z1 ⟨by omega, by omega⟩, Zm hlt, if_pos h, Zk (by omega) (by omega)]
    rfl
   ·congr 2; omega
  ·rw [if_neg h]
   refine Z2 ?_
   simp only [Qb.s0, Z3]
   rw [if_pos (by omega), Z1 ⟨by omega, by omega⟩, Zm hlt, if_neg h]
   rfl
theorem dayLoop {m : List Au} (hm : m.length ≤ 1000) (t : Int) (o1 : ByteArray) (o2 : Bool) (o3 : Int) : ∀ (n k : Nat), m.length - k = n → Qd.l0 m t (k : Int) o1 o2 o3 = some ((((k + dayN (m.drop k) t : Nat)) : Int), o1, o2, o3) := by
 intro n
 induction n with
 | zero =>
  intro k hk
  rw [List.drop_eq_nil_of_le (by omega)]
  refine Z2 ?_
  simp only [Qd.s0, Z3]
  rw [if_neg (by omega)]
  rfl
 | succ n ih =>
  intro k hk
  have hlt : k < m.length := by omega
  rw [List.drop_eq_getElem_cons hlt, Zca]
  by_cases h : m[k].2.2 ≤ t
  ·rw [if_pos h]
   refine (Z5 (x' := (((k + 1 : Nat) : Int), o1, o2, o3)) ?_).trans ((ih (k + 1) (by omega)).trans ?_)
   ·simp only [Qd.s0, Z3]
    rw [if_pos (by omega), Z1 ⟨by omega, by omega⟩, Zm hlt, if_pos h, Zk (by omega) (by omega)]
    rfl
   ·congr 3; omega
  ·rw [if_neg h]
   refine Z2 ?_
   simp only [Qd.s0, Z3]
   rw [if_pos (by omega), Z1 ⟨by omega, by omega⟩, Zm hlt, if_neg h]
   rfl
theorem OkA.cut {l : List Cl} {m : List Au} (h : OkA l m) (n : Nat) : OkA l (m.take n) :=
 ⟨h.log, by rw [List.length_take]; have := h.len; omega, fun a ha => h.num a (List.mem_of_mem_take ha)⟩
theorem gen_eq {ws : List Wr} (hs : ∀ w ∈ ws, szW w) (hn : ∀ w ∈ ws, w.2.2.1.length ≤ 100000000000) (h0 : Q7.f ws = some 0) {c : Cl} (hc : szR c) (hk : Qf.f c = some 0) :
  ∃ g, Q21.f ws c = some g ∧ Q22.f ws c = some g ∧ trust_Genuine.f ws c = some (g, 0) := by
 have hb : trust_checkBoth.f ws c = some 0 := by
  unfold trust_checkBoth.f
  rw [h0, ob_s, hk]
  rfl
 have ha := (ask_eq (l := ws) hs hc).trans hb
 have fin : ∀ g, trust_Genuine.f ws c = some (g, 0) → ref11_Genuine.f ws c = some (g, 0) → Q21.f ws c = some g ∧ Q22.f ws c = some g ∧ trust_Genuine.f ws c = some (g, 0) := by
  intro g h1 h2
  have h3 := h1
  unfold trust_Genuine.f at h1
  unfold ref11_Genuine.f at h2
  rw [hb, ob_s, show (!decide ((0 : Int) = 0)) = false from rfl, cb_f] at h1
  rw [ha, ob_s, show (!decide ((0 : Int) = 0)) = false from rfl, cb_f] at h2
  obtain ⟨x, h4, h5⟩ := Z3i h1
  obtain ⟨y, h6, h7⟩ := Z3i h2
  cases h5
  cases h7
  exact ⟨h4, h6, h3⟩
 cases both_of hs hc.toC with
 | no f hf h => rw [hb] at h; cases h; exact absurd rfl hf
 | none h _ hk hl hr hx => exact ⟨_, fin _ (Zd1 h hl hr hx).2 (Zbc ha hl hx).2⟩
 | one k hkl h _ hk hl hr he => exact ⟨_, fin _ (Zep hs hn hkl h hk hl hr he).2 (Zd2 hs hn hkl ha hk hl hr he).2⟩
theorem Zi4 {X E R : Type} {f : X → Int → E → Option (X ⊕ R)} {e : E} {r : List E} {x x' : X} (h : f x (r.length : Int) e = some (.inl x')) : Z6b f (e :: r) x = Z6b f r x' := by simp only [Z6b, h]
theorem Zi3 {X E R : Type} {f : X → Int → E → Option (X ⊕ R)} {e : E} {r : List E} {x : X} {y : R} (h : f x (r.length : Int) e = some (.inr y)) : Z6b f (e :: r) x = some (.inr y) := by simp only [Z6b, h]
abbrev Ans : Type := ByteArray × (Bool × Int)
def zB (o : Ans) : Option Ans → Ans ⊕ Ans
 | none => .inl o
 | some y => .inr y
def zR : Option Ans → Ans ⊕ Unit
 | none => .inr ()
 | some y => .inl y
def zF : Option Ans → Ans
 | none => (bs_, (false, 0))
 | some y => y
def Pick (ws : List Wr) (l : List Cl) (key : ByteArray) (t : Int) (T : List Bool) (k : Nat) (y : ByteArray × (Bool × Int)) : Prop :=
 ∃ i : Nat, ∃ h : i < l.length, i < k ∧ y = (l[i].2.2.1, (true, 0)) ∧ l[i].2.2.2.2.1 ≤ t ∧ l[i].1 = key ∧ T[i]? = some false ∧ Q21.f ws l[i] = some 1
theorem Zj7 {ws : List Wr} {l : List Cl} (hl : l.length ≤ 1000) (key : ByteArray) (t : Int) {S : Sta} (hT : S.2.2.1.length = l.length) (hg : ∀ c ∈ l, ∃ g, Q21.f ws c = some g ∧ Q22.f ws c = some g) (o : ByteArray × (Bool × Int)) :
  ∀ k, k ≤ l.length → ∃ z : Option (ByteArray × (Bool × Int)),
   Z6b (fun (x : ByteArray × (Bool × Int)) i v => Qd.s1 ws key t S.2.2.1 x.1 x.2.1 x.2.2 i v) (l.take k).reverse o = some (zB o z) ∧
   Qb.l1 ws l key t S ((k : Int) - 1) = some (zR z) ∧ ∀ y, z = some y → Pick ws l key t S.2.2.1 k y := by
 intro k
 induction k with
 | zero =>
  intro _
  refine ⟨none, rfl, Z2 ?_, fun y h => by cases h⟩
  simp only [Qb.s1, Z3]
  rw [if_neg (by omega)]
  rfl
 | succ k ih =>
  intro hk
  have hlt : k < l.length := hk
  have hltT : k < S.2.2.1.length := by rw [hT]; exact hlt
  obtain ⟨z, h1, h2, h3⟩ := ih (by omega)
  obtain ⟨g, hg1, hg2⟩ := hg _ (List.getElem_mem hlt)
  have htk : (l.take (k + 1)).reverse = l[k] :: (l.take k).reverse := by
   rw [List.take_add_one, List.getElem?_eq_getElem hlt]; simp
  have hrl : ((l.take k).reverse).length = k := by simp; omega
  have hkk : (((k + 1 : Nat)) : Int) - 1 = (k : Int) := by omega
  rw [htk, hkk]
  have skip : ∀ (hs1 : Qd.s1 ws key t S.2.2.1 o.1 o.2.1 o.2.2 (k : Int) l[k] = some (.inl o)) (hs2 : Qb.s1 ws l key t S (k : Int) = some (.inl ((k : Int) - 1))),
    ∃ z : Option (ByteArray × (Bool × Int)), Z6b (fun (x : ByteArray × (Bool × Int)) i v => Qd.s1 ws key t S.2.2.1 x.1 x.2.1 x.2.2 i v) (l[k] :: (l.take k).reverse) o = some (zB o z) ∧
    Qb.l1 ws l key t S (k : Int) = some (zR z) ∧ ∀ y, z = some y → Pick ws l key t S.2.2.1 (k + 1) y := by
   intro hs1 hs2
   refine ⟨z, (Zi4 (by rw [hrl]; exact hs1)).trans h1, (Z5 hs2).trans h2, fun y hy => ?_⟩
   obtain ⟨i, a1, a2, a3⟩ := h3 y hy
   exact ⟨i, a1, by omega, a3⟩
  have hin : InR ((k : Int) - 1) := ⟨by omega, by omega⟩
  have hck : (0 : Int) ≤ (k : Int) ∧ (k : Int) < ((List.length S.2.2.1 : Nat) : Int) := ⟨by omega, by omega⟩
  have hck2 : (0 : Int) ≤ (k : Int) ∧ (k : Int) < ((List.length l : Nat) : Int) := ⟨by omega, by omega⟩
  have hrT : rd false S.2.2.1 (k : Int) = S.2.2.1[k] := Zm hltT
  by_cases hd : l[k].2.2.2.2.1 ≤ t
  ·by_cases hkey : l[k].1 = key
   ·cases hb : S.2.2.1[k] with
    | true =>
     refine skip ?_ ?_
     ·simp only [Qd.s1, decide_eq_true hd, decide_eq_true hkey, cb_t, Z1 hck, hrT, hb, Bool.not_true, cb_f]
     ·simp only [Qb.s1, decide_eq_true (show (0 : Int) ≤ (k : Int) by omega), cb_t, Z1 hck2, Zm hlt, decide_eq_true hkey, decide_eq_true hd, Z1 hck, hrT, hb, Bool.not_true, cb_f, Z1 hin]
    | false =>
     by_cases hg1' : g = 1
     ·subst hg1'
      refine ⟨some (l[k].2.2.1, (true, 0)), Zi3 ?_, Z2 ?_, fun y hy => ?_⟩
      ·rw [hrl]
       simp only [Qd.s1, decide_eq_true hd, decide_eq_true hkey, cb_t, Z1 hck, hrT, hb, Bool.not_false, hg1, ob_s, decide_true]
      ·simp only [Qb.s1, decide_eq_true (show (0 : Int) ≤ (k : Int) by omega), cb_t, Z1 hck2, Zm hlt, decide_eq_true hkey, decide_eq_true hd, Z1 hck, hrT, hb, Bool.not_false, hg2, ob_s, decide_true, zR]
      ·cases hy
       exact ⟨k, hlt, Nat.lt_succ_self k, rfl, hd, hkey, by rw [List.getElem?_eq_getElem hltT, hb], hg1⟩
     ·refine skip ?_ ?_
      ·simp only [Qd.s1, decide_eq_true hd, decide_eq_true hkey, cb_t, Z1 hck, hrT, hb, Bool.not_false, hg1, ob_s, decide_eq_false hg1', cb_f]
      ·simp only [Qb.s1, decide_eq_true (show (0 : Int) ≤ (k : Int) by omega), cb_t, Z1 hck2, Zm hlt, decide_eq_true hkey, decide_eq_true hd, Z1 hck, hrT, hb, Bool.not_false, hg2, ob_s, decide_eq_false hg1', cb_f, Z1 hin]
   ·refine skip ?_ ?_
    ·simp only [Qd.s1, decide_eq_true hd, decide_eq_false hkey, cb_t, cb_f]
    ·simp only [Qb.s1, decide_eq_true (show (0 : Int) ≤ (k : Int) by omega), cb_t, Z1 hck2, Zm hlt, decide_eq_false hkey, cb_f, Z1 hin]
  ·refine skip ?_ ?_
   ·simp only [Qd.s1, decide_eq_false hd, cb_f]
   ·by_cases hkey : l[k].1 = key
    ·simp only [Qb.s1, decide_eq_true (show (0 : Int) ≤ (k : Int) by omega), cb_t, Z1 hck2, Zm hlt, decide_eq_true hkey, decide_eq_false hd, cb_f, Z1 hin]
    ·simp only [Qb.s1, decide_eq_true (show (0 : Int) ≤ (k : Int) by omega), cb_t, Z1 hck2, Zm hlt, decide_eq_false hkey, cb_f, Z1 hin]
theorem Zei {ws : List Wr} (hs : ∀ w ∈ ws, szW w) (hn : ∀ w ∈ ws, w.2.2.1.length ≤ 100000000000) {l : List Cl} (hr : ∀ c ∈ l, szR c) (m : List Au) (key : ByteArray) (t : Int) :
  ∃ x : ByteArray × (Bool × Int), Qd.f ws l m key t = some x ∧ Qb.f ws l m key t = some x ∧ (x = (bs_, (false, x.2.2)) ∨
   x.2.2 = 0 ∧ x.2.1 = true ∧ OkA l m ∧ Q7.f ws = some 0 ∧ Pick ws l key t (Z8w l (m.take (dayN m t))) l.length x) := by
 obtain ⟨f, h1, _⟩ := Z9i hs
 have h1' := (Ze6 hs).symm.trans h1
 by_cases hf : ¬ f = 0
 ·refine ⟨(bs_, false, f), ?_, ?_, .inl rfl⟩
  ·unfold Qd.f; simp only [h1, ob_s, decide_eq_false hf, Bool.not_false, cb_t]
  ·unfold Qb.f; simp only [h1', ob_s, decide_eq_false hf, Bool.not_false, cb_t]
 obtain rfl := Decidable.not_not.1 hf
 obtain ⟨f, h2, hA⟩ := Zjt (fun c hc => (hr c hc).toC) m
 have h2' : Qy.f l m = some f := (audRef hr m).symm.trans h2
 by_cases hf : ¬ f = 0
 ·refine ⟨(bs_, false, f), ?_, ?_, .inl rfl⟩
  ·unfold Qd.f; simp only [h1, h2, ob_s, decide_true, Bool.not_true, cb_f, decide_eq_false hf, Bool.not_false, cb_t]
  ·unfold Qb.f; simp only [h1', h2', ob_s, decide_true, Bool.not_true, cb_f, decide_eq_false hf, Bool.not_false, cb_t]
 obtain rfl := Decidable.not_not.1 hf
 have hA := hA rfl
 have h3 := Z2e key
 have h3' : Q1o.f key = some (digB key) := (Zfc key).trans h3
 cases hd : digB key with
 | false =>
  rw [hd] at h3 h3'
  refine ⟨(bs_, false, 3), ?_, ?_, .inl rfl⟩
  ·unfold Qd.f; simp only [h1, h2, h3, ob_s, decide_true, Bool.not_true, cb_f, Bool.not_false, cb_t]
  ·unfold Qb.f; simp only [h1', h2', h3', ob_s, decide_true, Bool.not_true, cb_f, Bool.not_false, cb_t]
 | true =>
  rw [hd] at h3 h3'
  by_cases hw : ¬ (0 ≤ t ∧ t ≤ 1000000000)
  ·refine ⟨(bs_, false, 1), ?_, ?_, .inl rfl⟩
   ·unfold Qd.f; simp only [h1, h2, h3, Z1n, ob_s, decide_true, Bool.not_true, cb_f, decide_eq_false hw, Bool.not_false, cb_t]
   ·unfold Qb.f; simp only [h1', h2', h3', Z5s, ob_s, decide_true, Bool.not_true, cb_f, decide_eq_false hw, Bool.not_false, cb_t]
  have hw := Decidable.not_not.1 hw
  have hll := hA.log.len
  have hA' := hA.cut (dayN m t)
  obtain ⟨n1, n2⟩ := Zac l (m.take (dayN m t))
  have hT : (Z8w l (m.take (dayN m t))).length = l.length := Z5v _ _ _ _ _ _ _ n1 n2
  have hg : ∀ c ∈ l, ∃ g, Q21.f ws c = some g ∧ Q22.f ws c = some g := fun c hc => by
   obtain ⟨g, a, b, _⟩ := gen_eq hs hn h1 (hr c hc) (hA.log.ok c hc).1
   exact ⟨g, a, b⟩
  have l1 := dayLoop hA.len t bs_ false 0 _ 0 rfl
  have l2 := Zjm hA.len t _ 0 rfl
  rw [show ((0 : Nat) : Int) = 0 from rfl, List.drop_zero, Nat.zero_add] at l1 l2
  have hdl := dayN_le m t
  have hck : (0 : Int) ≤ ((dayN m t : Nat) : Int) ∧ ((dayN m t : Nat) : Int) ≤ ((List.length m : Nat) : Int) := ⟨by omega, by omega⟩
  have hin : InR (((List.length l : Nat) : Int) - 1) := ⟨by omega, by omega⟩
  obtain ⟨z, z1, z2, z3⟩ := Zj7 hll key t (S := ((fcs0 l (m.take (dayN m t))).1, ((fcs0 l (m.take (dayN m t))).2.1, (Z8w l (m.take (dayN m t)), Z1w (Z4m (wrs l (fcs0 l (m.take (dayN m t))).2.1)))))) hT hg (bs_, (false, 0)) l.length (Nat.le_refl _)
  rw [List.take_length] at z1
  have z1' : Qd.l1 ws key t (Z8w l (m.take (dayN m t))) l bs_ false 0 = some (zB (bs_, (false, 0)) z) := z1
  have hbig : ((List.length l : Nat) : Int) ≤ 9223372036854775807 := by omega
  have e1 : Qd.f ws l m key t = some (zF z) := by
   unfold Qd.f
   simp only [h1, h2, h3, Z1n, ob_s, decide_true, Bool.not_true, cb_f, decide_eq_true hw, l1, Z1 hck, Int.toNat_natCast, Zek hA', Q1r.f, Z1 hbig, z1']
   cases z <;> rfl
  have e2 : Qb.f ws l m key t = some (zF z) := by
   unfold Qb.f
   simp only [h1', h2', h3', Z5s, ob_s, decide_true, Bool.not_true, cb_f, decide_eq_true hw, l2, Z1 hck, Int.toNat_natCast, Zem hA', Z1 hin, z2]
   cases z <;> rfl
  cases z with
  | none => exact ⟨_, e1, e2, .inl rfl⟩
  | some y =>
   have hp := z3 y rfl
   refine ⟨_, e1, e2, .inr ⟨?_, ?_, hA, h1, hp⟩⟩
   ·obtain ⟨i, _, _, rfl, _⟩ := hp; rfl
   ·obtain ⟨i, _, _, rfl, _⟩ := hp; rfl
theorem law_TTR {ws : List Wr} (hs : ∀ w ∈ ws, szW w) (hwl : ws.length ≤ 100000000000) (hn : ∀ w ∈ ws, w.2.2.1.length ≤ 100000000000) {l : List Cl} (hl : l.length ≤ 100000000000) (hu : ∀ c ∈ l, c.2.2.2.2.2.1.length ≤ 1000000000000) (hr : ∀ c ∈ l, szR c) {m : List Au} (hm : m.length ≤ 1000000000000) (key : ByteArray) (t : Int) :
  Q14.f ws l m key t = some true := by
 obtain ⟨x, h1, h2, _⟩ := Zei hs hn hr m key t
 have hb : ∀ b : Bool, (b == b) = true := fun b => by cases b <;> rfl
 unfold Q14.f
 simp only [copy_eq hwl hn, copyL hl hu, cloneA (show m.length * 32 ≤ 140737488355328 by omega), h1, h2, ob_s, decide_true, cb_t, hb, same_eq hwl hn, sameL hl hu, equalA hm, awake11]
end Go.Proofs.YtplgphblmeceoaaGreatDoor
set_option linter.unusedVariables false
set_option linter.unusedSimpArgs false
set_option maxRecDepth 10000
namespace Go.Proofs.YtplgphblmeceoaaGreatDoor
open Go Go.Proofs.YtplgphblmeceoaaGreatDoor.Eng
theorem Zj6 (x : List Wr × (List Cl × (List Au × (ByteArray × Int)))) (hx : Up.InAU T 6 [22,23,24,9,3] [.slice TyWr, .slice TyCl, .slice TyAu, .str, .int .i64] x) : Q14.f x.1 x.2.1 x.2.2.1 x.2.2.2.1 x.2.2.2.2 = some true := by
 have hu : Up.upBytes = 4294967296 := rfl
 obtain ⟨a1, a2, a3⟩ := up_wrs hx.1
 obtain ⟨h1, h2, h3⟩ := up_cls hx.2.1
 have g : List.length x.2.2.1 * 32 ≤ Up.upBytes := hx.2.2.1.1
 exact law_TTR a2 a1 a3 h1 h3 h2 (by omega) _ _
end Go.Proofs.YtplgphblmeceoaaGreatDoor
set_option linter.unusedVariables false
set_option linter.unusedSimpArgs false
set_option maxRecDepth 10000
namespace Go.Proofs.YtplgphblmeceoaaGreatDoor
open Go Go.Proofs.YtplgphblmeceoaaGreatDoor.Eng
def okV (w : Wr) : Prop := w.2.1.size ≤ 100 ∧ w.2.2.1.length ≤ 30
end Go.Proofs.YtplgphblmeceoaaGreatDoor
