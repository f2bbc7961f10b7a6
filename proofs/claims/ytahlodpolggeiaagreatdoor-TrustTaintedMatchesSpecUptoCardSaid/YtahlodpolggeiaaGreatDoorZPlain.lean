/-
  Plain laws over the printed functions: labels, words, writers, claimed results, digests, logs. No condition.
-/
import Derived.Test.YtahlodpolggeiaaGreatDoorZFun
import Derived.Sort.Walk0
import Derived.Laws.RangeAny
import Derived.Lib.IndexLaws
import Derived.Lib.ItoaLen
import Derived.Test.YtahlodpolggeiaaGreatDoorZUpA
import Derived.KernelRfl
set_option linter.unusedVariables false
set_option linter.unusedSimpArgs false
namespace Go.Proofs.YtahlodpolggeiaaGreatDoor
open Go Go.Proofs.YtahlodpolggeiaaGreatDoor.Eng
def BIG : Nat := 140737488355328
theorem Z8 (s : ByteArray) : s.size = s.data.toList.length := by rw [ByteArray.size]; simp
theorem Zc1 {s : ByteArray} {k : Nat} (h : k < s.data.toList.length) : bt s (k : Int) = s.data.toList[k] := by
 have h' : k < s.size := by rw [Z8]; exact h
 unfold bt
 simp only [Int.toNat_natCast]
 rw [getElem?_pos s k h', Option.getD_some]
 rfl
theorem Za6 {s : ByteArray} (hs : s.size ≤ BIG) (p : UInt8 → Bool) (f : Int → Option (Int ⊕ (Bool ⊕ Unit))) (hend : ∀ k : Nat, s.data.toList.length ≤ k → f k = some (.inr (.inr ())))
  (hno : ∀ k : Nat, ∀ h : k < s.data.toList.length, p s.data.toList[k] = false → f k = some (.inr (.inl false))) (hyes : ∀ k : Nat, ∀ h : k < s.data.toList.length, p s.data.toList[k] = true → f k = some (.inl ((k : Int) + 1))) :
  ∀ (n k : Nat), s.data.toList.length - k = n → Zl f (k : Int) = some (if (s.data.toList.drop k).all p then .inr () else .inl false) := by
 intro n
 induction n with
 | zero =>
  intro k hn
  rw [List.drop_eq_nil_of_le (by omega)]
  exact Z3 (hend k (by omega))
 | succ n ih =>
  intro k hn
  have hlt : k < s.data.toList.length := by omega
  rw [List.drop_eq_getElem_cons hlt, List.all_cons]
  cases hp : p s.data.toList[k] with
  | false => exact Z3 (hno k hlt hp)
  | true =>
   rw [Bool.true_and]
   exact (Z4 (hyes k hlt hp)).trans (ih (k + 1) (by omega))
def Z9f (c : UInt8) : Bool := decide (97 ≤ c.toNat ∧ c.toNat ≤ 122) || decide (65 ≤ c.toNat ∧ c.toNat ≤ 90) || decide (48 ≤ c.toNat ∧ c.toNat ≤ 57) || decide (0 ≤ Lib.indexByte [46, 95, 45, 43] c)
theorem Zbo (c : UInt8) : Q2l.f c = some (Z9f c) := by
 have hi : Qo.f Q1y c = some (Lib.indexByte [46, 95, 45, 43] c) := rfl
 unfold Q2l.f Z9f
 simp only [Z5, hi, ob_s]
 by_cases h1 : (97 : Int) ≤ ((UInt8.toNat c : Nat) : Int) <;> by_cases h2 : ((UInt8.toNat c : Nat) : Int) ≤ 122 <;> by_cases h3 : (65 : Int) ≤ ((UInt8.toNat c : Nat) : Int) <;> by_cases h4 : ((UInt8.toNat c : Nat) : Int) ≤ 90 <;>
  by_cases h5 : (48 : Int) ≤ ((UInt8.toNat c : Nat) : Int) <;> by_cases h6 : ((UInt8.toNat c : Nat) : Int) ≤ 57 <;> simp only [h1, h2, h3, h4, h5, h6, if_true, if_false] <;> congr 1 <;>
  (have g1 : decide (97 ≤ c.toNat ∧ c.toNat ≤ 122) = decide ((97 : Int) ≤ ((UInt8.toNat c : Nat) : Int) ∧ ((UInt8.toNat c : Nat) : Int) ≤ 122) := decide_eq_decide.2 (by omega)
   have g2 : decide (65 ≤ c.toNat ∧ c.toNat ≤ 90) = decide ((65 : Int) ≤ ((UInt8.toNat c : Nat) : Int) ∧ ((UInt8.toNat c : Nat) : Int) ≤ 90) := decide_eq_decide.2 (by omega)
   have g3 : decide (48 ≤ c.toNat ∧ c.toNat ≤ 57) = decide ((48 : Int) ≤ ((UInt8.toNat c : Nat) : Int) ∧ ((UInt8.toNat c : Nat) : Int) ≤ 57) := decide_eq_decide.2 (by omega)
   rw [g1, g2, g3]; simp [h1, h2, h3, h4, h5, h6])
def Z39 (s : ByteArray) : Bool := s.data.toList.all Z9f && (!decide (s = bs_) && (!decide (s = Q30) && !decide (s = Q2y)))
theorem Zbn {s : ByteArray} (hs : s.size ≤ BIG) : Q1b.f s = some (Z39 s) := by
 have hb : BIG = 140737488355328 := rfl
 have hl := Z8 s
 have h := Za6 hs Z9f (fun x => Q1b.s0 s (s.size : Int) x) (fun k hk => by
  simp only [Q1b.s0, Z5]; rw [if_neg (by omega)]) (fun k hk hp => by
  simp only [Q1b.s0, Z5, Zc1 hk, Zbo, hp, ob_s]; rw [if_pos (by omega), Z1 (by omega)]; rfl) (fun k hk hp => by
  simp only [Q1b.s0, Z5, Zc1 hk, Zbo, hp, ob_s]; rw [if_pos (by omega), Z1 (by omega), Zk (by omega) (by omega)]; rfl) s.data.toList.length 0 (by omega)
 rw [List.drop_zero] at h
 unfold Q1b.f Z39
 show ob (Zl (fun x => Q1b.s0 s (s.size : Int) x) ((0 : Nat) : Int)) _ = _
 rw [h]
 cases s.data.toList.all Z9f
 ·rfl
 ·simp only [if_true, ob_s, Z3e, Bool.true_and, Z1g, Z5]
  by_cases e1 : s = bs_
  ·rw [if_pos e1, decide_eq_true e1]; rfl
  ·rw [if_neg e1, decide_eq_false e1]
   by_cases e2 : s = Q30
   ·rw [if_pos e2, decide_eq_true e2]; rfl
   ·rw [if_neg e2, decide_eq_false e2]; rfl
theorem indexByte_lt : ∀ (l : List UInt8) (c : UInt8), -1 ≤ Lib.indexByte l c ∧ Lib.indexByte l c < l.length
 | [], c => by simp [Lib.indexByte]
 | b :: l, c => by
  have h := indexByte_lt l c
  unfold Lib.indexByte
  split
  ·simp only [List.length_cons]; omega
  ·split
   ·simp only [List.length_cons]; omega
   ·rename_i h1
    have : ¬ Lib.indexByte l c = -1 := by simpa using h1
    simp only [List.length_cons]; omega
theorem Zga (s : ByteArray) : Q2g.f s Q2w = some (Lib.indexByte s.data.toList 47) := by
 show ob (ck _ _) _ = _
 rw [Z1 (by rfl)]; rfl
theorem index58 (s : ByteArray) : Q1p.f s Q2v = some (Lib.indexByte s.data.toList 58) := by
 show ck _ _ = _
 rw [Z1 (by rfl)]; rfl
theorem Z2l (s : ByteArray) (a b : Nat) : (s.extract a b).size = min b s.size - a := by simp [ByteArray.size_extract]
theorem Zf9 {n : Nat} (hn : n ≤ 1000000000000) : ∀ (m i : Nat) (s : ByteArray) (a : List ByteArray), n - i = m → i ≤ n → a.length = n + 1 → s.size ≤ BIG →
  ∃ (s' : ByteArray) (i' : Nat) (a' : List ByteArray), Qp.l0 Q2w 0 (n : Int) s (i : Int) a = some (s', (i' : Int), a') ∧ i' ≤ n ∧ a'.length = n + 1 ∧ (∀ x ∈ a', x.size ≤ s.size ∨ x ∈ a) ∧ s'.size ≤ s.size := by
 intro m
 have hb : BIG = 140737488355328 := rfl
 induction m with
 | zero =>
  intro i s a hm hi ha hs
  refine ⟨s, i, a, Z3 ?_, hi, ha, fun x hx => .inr hx, Nat.le_refl _⟩
  simp only [Qp.s0, Z5]
  rw [if_neg (by omega)]
 | succ m ih =>
  intro i s a hm hi ha hs
  have hx := indexByte_lt s.data.toList 47
  have hl := Z8 s
  by_cases hneg : Lib.indexByte s.data.toList 47 < 0
  ·refine ⟨s, i, a, Z3 ?_, hi, ha, fun x hx => .inr hx, Nat.le_refl _⟩
   simp only [Qp.s0, Z5, Zga, ob_s]
   rw [if_pos (by omega), if_pos hneg]
  ·have hz1 := Z2l s 0 (Int.toNat (Lib.indexByte s.data.toList 47 + 0))
   have hz2 := Z2l s (Int.toNat (Lib.indexByte s.data.toList 47 + ((Q2w.size : Nat) : Int))) s.size
   have h1 : Q2w.size = 1 := rfl
   obtain ⟨s', i', a', h2, h3, h4, h5, h6⟩ := ih (i + 1) (s.extract (Int.toNat (Lib.indexByte s.data.toList 47 + ((Q2w.size : Nat) : Int))) s.size) (a.set i (s.extract 0 (Int.toNat (Lib.indexByte s.data.toList 47 + 0)))) (by omega) (by omega) (by simpa using ha) (by rw [hz2]; omega)
   refine ⟨s', i', a', (Z4 ?_).trans h2, h3, h4, fun x hx => ?_, by omega⟩
   ·simp only [Qp.s0, Z5, Zga, ob_s]
    rw [if_pos (by omega), if_neg hneg, Zk (by omega) (by omega), Z1 (by omega), Z1 (by omega), Z1 (by rw [Int.toNat_natCast]; omega), Zk (by rw [h1]; omega) (by rw [h1]; omega), Z1 (by rw [h1]; omega), Zk (by omega) (by omega)]
    rfl
   ·rcases h5 x hx with h | h
    ·left; omega
    ·rcases List.mem_or_eq_of_mem_set h with h | h
     ·exact .inr h
     ·left; rw [h, hz1]; omega
theorem Zbv (l : List UInt8) (c : UInt8) : (Lib.countByte l c : Nat) ≤ l.length := List.count_le_length
theorem Ze1 {s : ByteArray} (hs : s.size ≤ 100000000000) : ∃ l, Q1o.f s Q2w = some l ∧ l.length ≤ 100000000002 ∧ ∀ x ∈ l, x.size ≤ s.size := by
 have hb : BIG = 140737488355328 := rfl
 have hl := Z8 s
 have hc := Zbv s.data.toList 47
 have hcnt : Q2t.f s Q2w = some ((Lib.countByte s.data.toList 47 : Nat) : Int) := by
  show ck _ _ = _
  rw [Z1 (by rfl)]; rfl
 obtain ⟨s', i', a', h2, h3, h4, h5, h6⟩ := Zf9 (n := Lib.countByte s.data.toList 47) (by omega) _ 0 s (List.replicate (Lib.countByte s.data.toList 47 + 1) ByteArray.empty) rfl (Nat.zero_le _) (by simp) (by omega)
 unfold Q1o.f Qp.f
 have e1 : ¬ (Q2w = bs_) := by decide
 have hy : min (((Lib.countByte s.data.toList 47 : Nat) : Int) + 1) (((s.size : Nat) : Int) + 1) = ((Lib.countByte s.data.toList 47 + 1 : Nat) : Int) := by omega
 simp only [Z5, hcnt, ob_s, hy]
 rw [if_neg (by decide), if_neg e1, if_pos (by decide), Zk (by omega) (by omega), Zk (by omega) (by omega), Z1 (by omega), Zk (by omega) (by omega)]
 rw [show ((Lib.countByte s.data.toList 47 + 1 : Nat) : Int) - 1 = ((Lib.countByte s.data.toList 47 : Nat) : Int) by omega, Int.toNat_natCast]
 rw [show ((0 : Nat) : Int) = 0 from rfl] at h2
 rw [h2, ob_s]
 simp only
 rw [Z1 (by omega), Z1 (by rw [Int.toNat_natCast]; omega), Zk (by omega) (by omega), Z1 (by simp only [List.length_set]; omega), ob_s]
 refine ⟨_, rfl, by simp only [List.length_take, List.length_drop, List.length_set]; omega, fun x hx => ?_⟩
 have hx1 := List.mem_of_mem_drop (List.mem_of_mem_take hx)
 rcases List.mem_or_eq_of_mem_set hx1 with h | h
 ·rcases h5 x h with h | h
  ·exact h
  ·have := List.eq_of_mem_replicate h
   rw [this]; exact Nat.zero_le _
 ·rw [h]; exact h6
noncomputable def Z15 (s : ByteArray) : List ByteArray := (Q1o.f s Q2w).getD []
theorem Zda {s : ByteArray} (hs : s.size ≤ 100000000000) : Q1o.f s Q2w = some (Z15 s) ∧ (Z15 s).length ≤ 100000000002 ∧ ∀ x ∈ Z15 s, x.size ≤ s.size := by
 obtain ⟨l, h1, h2, h3⟩ := Ze1 hs
 have e : Z15 s = l := by unfold Z15; rw [h1]; rfl
 rw [e]
 exact ⟨h1, h2, h3⟩
theorem Zdj {α : Type} {l : List α} (p : α → Bool) (f : Int → Option (Int ⊕ (Bool ⊕ Unit))) (hend : ∀ k : Nat, l.length ≤ k → f k = some (.inr (.inr ())))
  (hno : ∀ k : Nat, ∀ h : k < l.length, p l[k] = false → f k = some (.inr (.inl false))) (hyes : ∀ k : Nat, ∀ h : k < l.length, p l[k] = true → f k = some (.inl ((k : Int) + 1))) :
  ∀ (n k : Nat), l.length - k = n → Zl f (k : Int) = some (if (l.drop k).all p then .inr () else .inl false) := by
 intro n
 induction n with
 | zero =>
  intro k hn
  rw [List.drop_eq_nil_of_le (by omega)]
  exact Z3 (hend k (by omega))
 | succ n ih =>
  intro k hn
  have hlt : k < l.length := by omega
  rw [List.drop_eq_getElem_cons hlt, List.all_cons]
  cases hp : p l[k] with
  | false => exact Z3 (hno k hlt hp)
  | true =>
   rw [Bool.true_and]
   exact (Z4 (hyes k hlt hp)).trans (ih (k + 1) (by omega))
noncomputable def Z1l (s : ByteArray) : Bool := if 1 ≤ s.size ∧ s.size ≤ 200 then (Z15 s).all Z39 else false
theorem Zg7 (s : ByteArray) : Q13.f s = some (Z1l s) := by
 have hb : BIG = 140737488355328 := rfl
 unfold Q13.f Z1l
 simp only [Z5]
 by_cases h1 : ((s.size : Nat) : Int) < 1
 ·rw [if_pos h1, if_neg (by omega)]
 ·by_cases h2 : (200 : Int) < ((s.size : Nat) : Int)
  ·rw [if_neg h1, if_pos h2, if_neg (by omega)]
  ·obtain ⟨g1, g2, g3⟩ := Zda (s := s) (by omega)
   have h := Zdj (l := Z15 s) Z39 (fun x => Q13.s0 (Z15 s) ((Z15 s).length : Int) x) (fun k hk => by
    simp only [Q13.s0, Z5]; rw [if_neg (by omega)]) (fun k hk hp => by
    have hz := g3 _ (List.getElem_mem hk)
    simp only [Q13.s0, Z5, Z12 hk, Zbn (s := (Z15 s)[k]) (by omega), hp, ob_s]; rw [if_pos (by omega), Z1 (by omega)]; rfl) (fun k hk hp => by
    have hz := g3 _ (List.getElem_mem hk)
    simp only [Q13.s0, Z5, Z12 hk, Zbn (s := (Z15 s)[k]) (by omega), hp, ob_s]; rw [if_pos (by omega), Z1 (by omega), Zk (by omega) (by omega)]; rfl) (Z15 s).length 0 (by omega)
   rw [List.drop_zero] at h
   rw [if_neg h1, if_neg h2, if_pos (by omega), g1, ob_s]
   show ob (Zl (fun x => Q13.s0 (Z15 s) ((Z15 s).length : Int) x) ((0 : Nat) : Int)) _ = _
   rw [h]
   cases (Z15 s).all Z39 <;> rfl
def hasP (s p : ByteArray) : Bool := decide (p.size ≤ s.size) && decide (s.extract 0 p.size = p)
theorem Z6e (s p : ByteArray) : Qn.f s p = some (hasP s p) := by
 unfold Qn.f hasP
 simp only [Z5, Int.toNat_natCast]
 by_cases h : p.size ≤ s.size
 ·rw [if_pos (by omega), Z1 (by omega), decide_eq_true h, Bool.true_and]
 ·rw [if_neg (by omega), decide_eq_false h, Bool.false_and]
def cutP (s p : ByteArray) : ByteArray × Bool := if hasP s p then (s.extract p.size s.size, true) else (s, false)
theorem Z6h (s p : ByteArray) : Q1a.f s p = some (cutP s p) := by
 unfold Q1a.f Qw.f cutP
 simp only [Z6e, ob_s, Int.toNat_natCast]
 cases h : hasP s p with
 | false => rfl
 | true =>
  have h' : p.size ≤ s.size := by
   unfold hasP at h
   rw [Bool.and_eq_true] at h
   exact of_decide_eq_true h.1
  simp only [Bool.not_true, cb_f]
  rw [Z1 (by omega)]
  rfl
def Z21 (s : ByteArray) : ByteArray × (ByteArray × Bool) :=
 if 0 ≤ Lib.indexByte s.data.toList 58 then (s.extract 0 (Lib.indexByte s.data.toList 58).toNat, s.extract ((Lib.indexByte s.data.toList 58).toNat + 1) s.size, true) else (s, bs_, false)
theorem Zj5 {s : ByteArray} (hs : s.size ≤ BIG) : Q27.f s Q2v = some (Z21 s) := by
 have hb : BIG = 140737488355328 := rfl
 have hx := indexByte_lt s.data.toList 58
 have hl := Z8 s
 have h1 : Q2v.size = 1 := rfl
 unfold Q27.f Q1d.f Z21
 simp only [index58, ob_s, Z5, h1]
 by_cases h : 0 ≤ Lib.indexByte s.data.toList 58
 ·rw [if_pos h, if_pos h, Z1 (by omega), Zk (by omega) (by omega), Z1 (by omega), ob_s]
  rw [show (Lib.indexByte s.data.toList 58 + ((1 : Nat) : Int)).toNat = (Lib.indexByte s.data.toList 58).toNat + 1 by omega]
 ·rw [if_neg h, if_neg h]; rfl
theorem Zbm {s : ByteArray} (hs : s.size ≤ BIG) : ∃ r, Q2f.f s = some r ∧ r.size ≤ s.size := by
 have hb : BIG = 140737488355328 := rfl
 have hl := Z8 s
 have go : ∀ (m : Nat) (k : Int), (k + 1).toNat = m → -1 ≤ k → k < s.size → ∃ r, Q2.l0 s (UInt8.ofInt 47) k = some r ∧ ∀ i, r = .inl i → 0 ≤ i ∧ i < s.size := by
  intro m
  induction m with
  | zero =>
   intro k hm h1 h2
   refine ⟨.inr (), Z3 ?_, fun i h => by cases h⟩
   simp only [Q2.s0, Z5]
   rw [if_neg (by omega)]
  | succ m ih =>
   intro k hm h1 h2
   by_cases he : ((UInt8.toNat (bt s k) : Nat) : Int) = ((UInt8.toNat (UInt8.ofInt 47) : Nat) : Int)
   ·refine ⟨.inl k, Z3 ?_, fun i h => by cases h; omega⟩
    simp only [Q2.s0, Z5]
    rw [if_pos (by omega), Z1 (by omega), if_pos he]
   ·obtain ⟨r, h3, h4⟩ := ih (k - 1) (by omega) (by omega) (by omega)
    refine ⟨r, (Z4 ?_).trans h3, h4⟩
    simp only [Q2.s0, Z5]
    rw [if_pos (by omega), Z1 (by omega), if_neg he, Zk (by omega) (by omega)]
 obtain ⟨r, h1, h2⟩ := go _ (((s.size : Nat) : Int) - 1) rfl (by omega) (by omega)
 unfold Q2f.f Q19.f Q2.f
 simp only [h1, ob_s]
 rw [Zk (by omega) (by omega)]
 cases r with
 | inl i =>
  have := h2 i rfl
  simp only [Za5, ob_s]
  rw [Zk (by omega) (by omega), Z1 (by omega)]
  exact ⟨_, rfl, by rw [Z2l]; omega⟩
 | inr u =>
  simp only [Z3e, ob_s]
  rw [Zk (by omega) (by omega), Z1 (by omega)]
  exact ⟨_, rfl, by rw [Z2l]; omega⟩
noncomputable def labF (a : ByteArray × ByteArray) : Int := if (a.1 = bs_ ∨ Z1l a.1 = true) ∧ Z1l a.2 = true then 0 else 3
theorem Z3d (a : ByteArray × ByteArray) : Q14.f a = some (labF a) := by
 unfold Q14.f labF
 simp only [Zg7, ob_s, Z1g, Z5]
 by_cases e : a.1 = bs_
 ·simp only [e, if_true, true_or, true_and]
  cases Z1l a.2 <;> rfl
 ·simp only [e, if_false, false_or]
  cases Z1l a.1 <;> cases Z1l a.2 <;> rfl
end Go.Proofs.YtahlodpolggeiaaGreatDoor
set_option linter.unusedVariables false
set_option linter.unusedSimpArgs false
namespace Go.Proofs.YtahlodpolggeiaaGreatDoor
open Go Go.Proofs.YtahlodpolggeiaaGreatDoor.Eng
def cmpS (a b : ByteArray) : Int := Lib.compareBytes a.data.toList b.data.toList
theorem cmpL_eq0 : ∀ a b : List UInt8, (Lib.compareBytes a b = 0 ↔ a = b)
 | [], [] => by simp [Lib.compareBytes]
 | [], _ :: _ => by simp [Lib.compareBytes]
 | _ :: _, [] => by simp [Lib.compareBytes]
 | x :: a, y :: b => by
  have ih := cmpL_eq0 a b
  unfold Lib.compareBytes
  by_cases h1 : x < y
  ·have h3 : ¬ x = y := fun e => by subst e; exact absurd h1 (UInt8.lt_irrefl x)
   simp [h1, h3]
  ·by_cases h2 : y < x
   ·have h3 : ¬ x = y := fun e => by subst e; exact absurd h2 (UInt8.lt_irrefl x)
    simp [h1, h2, h3]
   ·have h3 : x = y := UInt8.le_antisymm (UInt8.not_lt.1 h2) (UInt8.not_lt.1 h1)
    subst h3
    simp only [h1, if_false, List.cons.injEq, true_and]
    exact ih
theorem cmpL_trans : ∀ a b c : List UInt8, Lib.compareBytes a b < 0 → Lib.compareBytes b c < 0 → Lib.compareBytes a c < 0
 | [], [], c, h, _ => by simp [Lib.compareBytes] at h
 | [], _ :: _, [], _, h => by simp [Lib.compareBytes] at h
 | [], _ :: _, _ :: _, _, _ => by simp [Lib.compareBytes]
 | _ :: _, [], c, h, _ => by simp [Lib.compareBytes] at h
 | _ :: _, _ :: _, [], _, h => by simp [Lib.compareBytes] at h
 | x :: a, y :: b, z :: c, h, h' => by
  have ih := cmpL_trans a b c
  unfold Lib.compareBytes at h h' ⊢
  by_cases h1 : x < y
  ·by_cases h2 : y < z
   ·simp [UInt8.lt_trans h1 h2]
   ·by_cases h3 : z < y
    ·simp [h2, h3] at h'
    ·have e : y = z := UInt8.le_antisymm (UInt8.not_lt.1 h3) (UInt8.not_lt.1 h2)
     subst e; simp [h1]
  ·by_cases h2 : y < x
   ·simp [h1, h2] at h
   ·have e : x = y := UInt8.le_antisymm (UInt8.not_lt.1 h2) (UInt8.not_lt.1 h1)
    subst e
    by_cases h3 : x < z
    ·simp [h3]
    ·by_cases h4 : z < x
     ·simp [h3, h4] at h'
     ·simp only [h1, if_false] at h
      simp only [h3, h4, if_false] at h' ⊢
      exact ih h h'
theorem Z5k (a b : ByteArray) : cmpS a b = 0 ↔ a = b := by
 unfold cmpS
 rw [cmpL_eq0]
 exact ⟨fun h => ByteArray.ext (Array.toList_inj.1 h), fun h => by rw [h]⟩
theorem Z93 {a b c : ByteArray} (h : cmpS a b < 0) (h' : cmpS b c < 0) : cmpS a c < 0 := cmpL_trans _ _ _ h h'
def Rising (l : List ByteArray) : Prop := ∀ i j : Nat, ∀ h : j < l.length, ∀ h' : i < j, cmpS (l[i]'(by omega)) l[j] < 0
theorem Rising.inj {l : List ByteArray} (h : Rising l) {i j : Nat} (hi : i < l.length) (hj : j < l.length) (e : l[i] = l[j]) : i = j := by
 rcases Nat.lt_trichotomy i j with h1 | h1 | h1
 ·have := h i j hj h1
  rw [e] at this
  have h0 := (Z5k l[j] l[j]).2 rfl
  omega
 ·exact h1
 ·have := h j i hi h1
  rw [e] at this
  have h0 := (Z5k l[j] l[j]).2 rfl
  omega
end Go.Proofs.YtahlodpolggeiaaGreatDoor
set_option linter.unusedVariables false
set_option linter.unusedSimpArgs false
namespace Go.Proofs.YtahlodpolggeiaaGreatDoor
open Go Go.Lib Go.Proofs.YtahlodpolggeiaaGreatDoor.Eng
def Z69 (c : UInt8) : Bool := decide (33 ≤ c.toNat ∧ c.toNat ≤ 126)
def Zdd (s : ByteArray) : Bool := s.data.toList.all Z69
theorem Zi9 {s : ByteArray} {k : Nat} (h : k < s.size) : s[k] = s.data.toList[k]'(by rw [← Z8]; exact h) := by
 rfl
theorem Zbp (s : ByteArray) : ∀ (f pos : Nat), s.size - pos ≤ f → decide (0 ≤ idxFuncFrom Z1p true s f pos) = !(s.data.toList.drop pos).all Z69
 | 0, pos, h => by
  have hl := Z8 s
  rw [List.drop_eq_nil_of_le (by omega)]
  rfl
 | f + 1, pos, h => by
  have hl := Z8 s
  unfold idxFuncFrom
  by_cases hp : pos < s.size
  ·rw [if_pos hp]
   have hlt : pos < s.data.toList.length := by omega
   rw [List.drop_eq_getElem_cons hlt, List.all_cons]
   have hg := Zi9 hp
   by_cases ha : (s[pos]'hp).toNat < 128
   ·rw [decode_ascii s pos hp ha]
    simp only
    rw [hg]
    rw [hg] at ha
    by_cases hn : Z1p (s.data.toList[pos]).toNat = true
    ·rw [if_pos hn]
     have : Z69 s.data.toList[pos] = false := by
      unfold Z69
      unfold Z1p at hn
      have := of_decide_eq_true hn
      exact decide_eq_false (by omega)
     rw [this, Bool.false_and, decide_eq_true (by omega)]; rfl
    ·rw [if_neg hn, Zbp s f (pos + 1) (by omega)]
     have : Z69 s.data.toList[pos] = true := by
      unfold Z69
      unfold Z1p at hn
      have : ¬ ((s.data.toList[pos]).toNat < 33 ∨ 126 < (s.data.toList[pos]).toNat) := fun h => hn (decide_eq_true h)
      exact decide_eq_true (by omega)
     rw [this, Bool.true_and]
   ·have hd := decode_high s pos hp (by omega)
    have hn : Z1p (Utf8.decode s pos).1 = true := decide_eq_true (by omega)
    rw [if_pos hn]
    have : Z69 s.data.toList[pos] = false := by
     unfold Z69
     rw [← hg]
     exact decide_eq_false (by omega)
    rw [this, Bool.false_and, decide_eq_true (by omega)]; rfl
  ·rw [if_neg hp, List.drop_eq_nil_of_le (by omega)]
   rfl
theorem Z8v (s : ByteArray) : Q1z.f s = some (Zdd s) := by
 unfold Q1z.f Q2b.f
 have h := Zbp s s.size 0 (by omega)
 rw [List.drop_zero] at h
 have h' : decide (0 ≤ idxFunc Z1p true s) = !Zdd s := h
 rw [ob_s, h', Bool.not_not]
def Z6k (c : UInt8) : Bool := decide (97 ≤ c.toNat ∧ c.toNat ≤ 122) || decide (48 ≤ c.toNat ∧ c.toNat ≤ 57) || decide (c.toNat = 45) || decide (c.toNat = 95)
theorem Z5h {p : UInt8 → Bool} : ∀ {l : List UInt8}, l.dropWhile p = [] ↔ l.all p = true
 | [] => by simp
 | x :: l => by
  rw [List.dropWhile_cons, List.all_cons]
  cases h : p x with
  | true => simp only [if_true, Bool.true_and]; exact Z5h
  | false => simp
theorem Z5i {p : UInt8 → Bool} : ∀ {l : List UInt8}, (l.dropWhile p).all p = l.all p
 | [] => rfl
 | x :: l => by
  rw [List.dropWhile_cons]
  cases h : p x with
  | true => simp only [if_true, List.all_cons, h, Bool.true_and]; exact Z5i
  | false => simp only [Bool.false_eq_true, if_false]
theorem Zd4 (l cs : List UInt8) : trimS l cs = [] ↔ l.all (fun c => cs.contains c) = true := by
 have e1 : trimLeftS (trimRightS l cs) cs = ((l.reverse.dropWhile (cs.contains ·)).reverse).dropWhile (cs.contains ·) := rfl
 unfold trimS
 rw [e1, Z5h, List.all_reverse, Z5i, List.all_reverse]
abbrev wordCs : ByteArray := Q18
theorem Zhf (c : UInt8) : wordCs.data.toList.contains c = Z6k c := by
 have key : ∀ n : Fin 256, wordCs.data.toList.contains (UInt8.ofNat n.val) = Z6k (UInt8.ofNat n.val) := by decide +kernel
 have h := key ⟨c.toNat, c.toNat_lt⟩
 simp only [UInt8.ofNat_toNat] at h
 exact h
def Z86 (s : ByteArray) : Bool := if 1 ≤ s.size ∧ s.size ≤ 40 then (decide (97 ≤ (bt s 0).toNat ∧ (bt s 0).toNat ≤ 122) && s.data.toList.all Z6k) else false
theorem Z5b (s : ByteArray) : Q1r.f s = some (Z86 s) := by
 unfold Q1r.f Z86
 simp only [Z5]
 by_cases h1 : ((s.size : Nat) : Int) < 1
 ·rw [if_pos h1, if_neg (by omega)]
 ·by_cases h2 : (40 : Int) < ((s.size : Nat) : Int)
  ·rw [if_neg h1, if_pos h2, if_neg (by omega)]
  ·rw [if_neg h1, if_neg h2, Z1 (by omega), Z1 (by omega), if_pos (show 1 ≤ s.size ∧ s.size ≤ 40 by omega)]
   by_cases h3 : ((UInt8.toNat (bt s 0) : Nat) : Int) < 97
   ·rw [if_pos h3, decide_eq_false (by omega), Bool.false_and]
   ·by_cases h4 : (122 : Int) < ((UInt8.toNat (bt s 0) : Nat) : Int)
    ·rw [if_neg h3, if_pos h4, decide_eq_false (by omega), Bool.false_and]
    ·rw [if_neg h3, if_neg h4, decide_eq_true (by omega), Bool.true_and]
     unfold Q2j.f
     rw [Z1 ⟨by omega, by decide, by decide +kernel⟩, ob_s]
     congr 1
     have h5 : (⟨(trimS s.data.toList wordCs.data.toList).toArray⟩ : ByteArray) = bs_ ↔ s.data.toList.all Z6k = true := by
      have e : s.data.toList.all Z6k = s.data.toList.all (fun c => wordCs.data.toList.contains c) := by
       congr 1; funext c; exact (Zhf c).symm
      rw [e, ← Zd4]
      constructor
      ·intro h
       have := congrArg (fun b : ByteArray => b.data.toList) h
       have h7 : trimS s.data.toList wordCs.data.toList = bs_.data.toList := by simpa using this
       exact h7.trans rfl
      ·intro h
       rw [h]; rfl
     cases h6 : s.data.toList.all Z6k with
     | true => exact decide_eq_true (h5.2 h6)
     | false => exact decide_eq_false (fun h => by rw [h5.1 h] at h6; cases h6)
theorem Zeh (s : ByteArray) : Q16.f s = some (Z86 s) := by
 have hl := Z8 s
 unfold Q16.f Q1x.f Z86
 simp only [Z5]
 by_cases h1 : (1 : Int) ≤ ((s.size : Nat) : Int)
 ·rw [if_pos h1, ob_s]
  by_cases h2 : ((s.size : Nat) : Int) ≤ 40
  ·rw [decide_eq_true h2, Bool.not_true, cb_f, Z1 (by omega), Z1 (by omega), if_pos (show 1 ≤ s.size ∧ s.size ≤ 40 by omega)]
   by_cases h3 : ((UInt8.toNat (bt s 0) : Nat) : Int) < 97
   ·rw [if_pos h3, decide_eq_false (by omega), Bool.false_and]
   ·by_cases h4 : (122 : Int) < ((UInt8.toNat (bt s 0) : Nat) : Int)
    ·rw [if_neg h3, if_pos h4, decide_eq_false (by omega), Bool.false_and]
    ·rw [if_neg h3, if_neg h4, decide_eq_true (by omega), Bool.true_and]
     have hb : BIG = 140737488355328 := rfl
     have h := Za6 (s := s) (by omega) Z6k (fun x => Q16.s0 s (s.size : Int) x) (fun k hk => by
      simp only [Q16.s0, Z5]; rw [if_neg (by omega)]) (fun k hk hp => by
      have c0 : 0 ≤ (k : Int) ∧ (k : Int) < ((s.size : Nat) : Int) := by omega
      have c1 : InR ((k : Int) + 1) := ⟨by omega, by omega⟩
      have hw : Z6k s.data.toList[k] = false := hp
      simp only [Q16.s0, Z5, Z1g, Zc1 hk, Z1 c0, Z1 c1, if_pos c0.2]
      unfold Z6k at hw
      by_cases g1 : ((UInt8.toNat s.data.toList[k] : Nat) : Int) < 97 <;> by_cases g2 : (122 : Int) < ((UInt8.toNat s.data.toList[k] : Nat) : Int) <;> by_cases g3 : ((UInt8.toNat s.data.toList[k] : Nat) : Int) < 48 <;> by_cases g4 : (57 : Int) < ((UInt8.toNat s.data.toList[k] : Nat) : Int) <;>
       by_cases g5 : ((UInt8.toNat s.data.toList[k] : Nat) : Int) = 45 <;> by_cases g6 : ((UInt8.toNat s.data.toList[k] : Nat) : Int) = 95 <;> simp only [g1, g2, g3, g4, g5, g6, if_true, if_false] <;>
       first
       | rfl
       | (
        exfalso
        simp only [Bool.or_eq_true, Bool.or_eq_false_iff, decide_eq_true_eq, decide_eq_false_iff_not] at hw
        omega)) (fun k hk hp => by
      have c0 : 0 ≤ (k : Int) ∧ (k : Int) < ((s.size : Nat) : Int) := by omega
      have c1 : InR ((k : Int) + 1) := ⟨by omega, by omega⟩
      have hw : Z6k s.data.toList[k] = true := hp
      simp only [Q16.s0, Z5, Z1g, Zc1 hk, Z1 c0, Z1 c1, if_pos c0.2]
      unfold Z6k at hw
      by_cases g1 : ((UInt8.toNat s.data.toList[k] : Nat) : Int) < 97 <;> by_cases g2 : (122 : Int) < ((UInt8.toNat s.data.toList[k] : Nat) : Int) <;> by_cases g3 : ((UInt8.toNat s.data.toList[k] : Nat) : Int) < 48 <;> by_cases g4 : (57 : Int) < ((UInt8.toNat s.data.toList[k] : Nat) : Int) <;>
       by_cases g5 : ((UInt8.toNat s.data.toList[k] : Nat) : Int) = 45 <;> by_cases g6 : ((UInt8.toNat s.data.toList[k] : Nat) : Int) = 95 <;> simp only [g1, g2, g3, g4, g5, g6, if_true, if_false] <;>
       first
       | rfl
       | (
        exfalso
        simp only [Bool.or_eq_true, Bool.or_eq_false_iff, decide_eq_true_eq, decide_eq_false_iff_not] at hw
        omega)) s.data.toList.length 0 (by omega)
     rw [List.drop_zero] at h
     show ob (Zl (fun x => Q16.s0 s (s.size : Int) x) ((0 : Nat) : Int)) _ = _
     rw [h]
     cases s.data.toList.all Z6k <;> rfl
  ·rw [decide_eq_false h2, Bool.not_false, cb_t, if_neg (by omega)]
 ·rw [if_neg h1, ob_s, Bool.not_false, cb_t, if_neg (by omega)]
end Go.Proofs.YtahlodpolggeiaaGreatDoor
set_option linter.unusedVariables false
set_option linter.unusedSimpArgs false
namespace Go.Proofs.YtahlodpolggeiaaGreatDoor
open Go Go.Lib Go.Proofs.YtahlodpolggeiaaGreatDoor.Eng
theorem Zd2 {s t : ByteArray} (h : s.data.toList = t.data.toList) : s = t := by
 apply ByteArray.ext
 exact Array.toList_inj.1 h
theorem Zer (s t : ByteArray) : (s ++ t).data.toList = s.data.toList ++ t.data.toList := by simp
theorem L_ex (s : ByteArray) (a b : Nat) : (s.extract a b).data.toList = (s.data.toList.take b).drop a := by simp [ByteArray.data_extract, List.drop_take]
theorem Z8p {s : ByteArray} (hs : s.size ≤ BIG) : Q1c.f s = some (Z39 s) := by
 have hb : BIG = 140737488355328 := rfl
 have hl := Z8 s
 have hi : ∀ c, Qo.f Q1y c = some (Lib.indexByte [46, 95, 45, 43] c) := fun c => rfl
 have key : ∀ k : Nat, ∀ hk : k < s.data.toList.length, Q1c.s0 s (s.size : Int) (k : Int) = some (if Z9f s.data.toList[k] = true then .inl ((k : Int) + 1) else .inr (.inl false)) := fun k hk => by
  have c0 : 0 ≤ (k : Int) ∧ (k : Int) < ((s.size : Nat) : Int) := by omega
  have c1 : InR ((k : Int) + 1) := ⟨by omega, by omega⟩
  simp only [Q1c.s0, Z5, Zc1 hk, hi, ob_s, Z1 c0, Z1 c1, if_pos c0.2]
  have e : Z9f s.data.toList[k] = (decide (97 ≤ (s.data.toList[k]).toNat ∧ (s.data.toList[k]).toNat ≤ 122) || decide (65 ≤ (s.data.toList[k]).toNat ∧ (s.data.toList[k]).toNat ≤ 90) || decide (48 ≤ (s.data.toList[k]).toNat ∧ (s.data.toList[k]).toNat ≤ 57) || decide (0 ≤ Lib.indexByte [46, 95, 45, 43] s.data.toList[k])) := rfl
  rw [e]
  by_cases g1 : ((UInt8.toNat s.data.toList[k] : Nat) : Int) < 97 <;> by_cases g2 : (122 : Int) < ((UInt8.toNat s.data.toList[k] : Nat) : Int) <;> by_cases g3 : ((UInt8.toNat s.data.toList[k] : Nat) : Int) < 65 <;> by_cases g4 : (90 : Int) < ((UInt8.toNat s.data.toList[k] : Nat) : Int) <;>
   by_cases g5 : ((UInt8.toNat s.data.toList[k] : Nat) : Int) < 48 <;> by_cases g6 : (57 : Int) < ((UInt8.toNat s.data.toList[k] : Nat) : Int) <;> by_cases g7 : Lib.indexByte [46, 95, 45, 43] s.data.toList[k] < 0 <;>
   first
   | (exfalso; omega)
   | (
    simp only [g1, g2, g3, g4, g5, g6, g7, if_true, if_false]
    first
    | (
     rw [if_pos]
     simp only [Bool.or_eq_true, decide_eq_true_eq]
     omega)
    | (
     rw [if_neg]
     simp only [Bool.or_eq_true, decide_eq_true_eq]
     omega))
 have h := Za6 hs Z9f (fun x => Q1c.s0 s (s.size : Int) x) (fun k hk => by
  simp only [Q1c.s0, Z5]; rw [if_neg (by omega)]) (fun k hk hp => by
  rw [key k hk, hp]; rfl) (fun k hk hp => by
  rw [key k hk, hp]; rfl) s.data.toList.length 0 (by omega)
 rw [List.drop_zero] at h
 unfold Q1c.f Z39
 show ob (Zl (fun x => Q1c.s0 s (s.size : Int) x) ((0 : Nat) : Int)) _ = _
 rw [h]
 cases s.data.toList.all Z9f
 ·rfl
 ·simp only [if_true, ob_s, Z3e, Bool.true_and, Z1g, Z5]
  by_cases h1 : s = bs_ <;> by_cases h2 : s = Q30 <;> by_cases h3 : s = Q2y <;> simp [h1, h2, h3]
theorem Z8o {s : ByteArray} (hs : s.size ≤ 100000000000) : Q17.f s = some (Z1l s) := by
 have hb : BIG = 140737488355328 := rfl
 obtain ⟨g1, g2, g3⟩ := Zda (s := s) hs
 have h := Zdj (l := Z15 s) Z39 (fun x => Q17.s0 (Z15 s) ((Z15 s).length : Int) x) (fun k hk => by
  simp only [Q17.s0, Z5]; rw [if_neg (by omega)]) (fun k hk hp => by
  have hz := g3 _ (List.getElem_mem hk)
  simp only [Q17.s0, Z5, Z12 hk, Z8p (s := (Z15 s)[k]) (by omega), hp, ob_s]; rw [if_pos (by omega), Z1 (by omega)]; rfl) (fun k hk hp => by
  have hz := g3 _ (List.getElem_mem hk)
  simp only [Q17.s0, Z5, Z12 hk, Z8p (s := (Z15 s)[k]) (by omega), hp, ob_s]; rw [if_pos (by omega), Z1 (by omega), Zk (by omega) (by omega)]; rfl) (Z15 s).length 0 (by omega)
 rw [List.drop_zero] at h
 unfold Q17.f Z1l
 rw [g1, ob_s]
 show ob (Zl (fun x => Q17.s0 (Z15 s) ((Z15 s).length : Int) x) ((0 : Nat) : Int)) _ = _
 rw [h]
 unfold Q2p.f
 cases (Z15 s).all Z39 with
 | true =>
  simp only [if_true, ob_s, Z3e, Z5]
  by_cases h1 : (1 : Int) ≤ ((s.size : Nat) : Int)
  ·rw [if_pos h1, ob_s]
   by_cases h2 : ((s.size : Nat) : Int) ≤ 200
   ·rw [decide_eq_true h2, if_pos (by omega)]
   ·rw [decide_eq_false h2, if_neg (by omega)]
  ·rw [if_neg h1, ob_s, if_neg (by omega)]
 | false =>
  simp only [Bool.false_eq_true, if_false, ob_s, Za5]
  split <;> rfl
theorem Zck {a : ByteArray × ByteArray} (h1 : a.1.size ≤ 100000000000) (h2 : a.2.size ≤ 100000000000) : Q1h.f a = some (labF a) := by
 unfold Q1h.f Q2i.f labF
 simp only [Z8o h1, Z8o h2, ob_s, Z1g, Z5]
 by_cases e : a.1 = bs_
 ·simp only [e, if_true, true_or, true_and, ob_s, cb_t]
  cases Z1l a.2 <;> rfl
 ·simp only [e, if_false, false_or, ob_s]
  cases Z1l a.1 <;> cases Z1l a.2 <;> rfl
end Go.Proofs.YtahlodpolggeiaaGreatDoor
set_option linter.unusedVariables false
set_option linter.unusedSimpArgs false
namespace Go.Proofs.YtahlodpolggeiaaGreatDoor
open Go Go.Lib Go.Proofs.YtahlodpolggeiaaGreatDoor.Eng
theorem L_47 : Q1g.data.toList = [47, 47] := rfl
theorem L_58 : Q2v.data.toList = [58] := rfl
theorem Zdk {s p : ByteArray} : hasP s p = true ↔ ∃ t, s.data.toList = p.data.toList ++ t := by
 have hl := Z8 s
 have hp := Z8 p
 unfold hasP
 rw [Bool.and_eq_true, decide_eq_true_eq, decide_eq_true_eq]
 constructor
 ·rintro ⟨h1, h2⟩
  have h3 := congrArg (fun b : ByteArray => b.data.toList) h2
  simp only [L_ex, List.drop_zero] at h3
  exact ⟨s.data.toList.drop p.size, by rw [← h3, List.take_append_drop]⟩
 ·rintro ⟨t, ht⟩
  have hlen := congrArg List.length ht
  rw [List.length_append] at hlen
  refine ⟨by omega, Zd2 ?_⟩
  rw [L_ex, List.drop_zero, ht, List.take_append_of_le_length (by omega), List.take_of_length_le (by omega)]
theorem Z72 {s p : ByteArray} {t : List UInt8} (h : s.data.toList = p.data.toList ++ t) : (cutP s p).2 = true ∧ (cutP s p).1.data.toList = t := by
 have hl := Z8 s
 have hp := Z8 p
 have hlen := congrArg List.length h
 rw [List.length_append] at hlen
 unfold cutP
 rw [if_pos (Zdk.2 ⟨t, h⟩)]
 refine ⟨rfl, ?_⟩
 show (s.extract p.size s.size).data.toList = t
 rw [L_ex, List.take_of_length_le (by omega), h, List.drop_append_of_le_length (by omega), List.drop_of_length_le (by omega), List.nil_append]
theorem Za4 {s p : ByteArray} (h : ¬ ∃ t, s.data.toList = p.data.toList ++ t) : cutP s p = (s, false) := by
 unfold cutP
 rw [if_neg (fun h' => h (Zdk.1 h'))]
theorem Zih (l : List UInt8) : (Lib.indexByte l 58 = -1 ∧ 58 ∉ l) ∨ ∃ a b, l = a ++ 58 :: b ∧ 58 ∉ a ∧ Lib.indexByte l 58 = (a.length : Int) := by
 have h1 := indexByte_lt l 58
 by_cases h : Lib.indexByte l 58 = -1
 ·refine .inl ⟨h, fun hm => ?_⟩
  obtain ⟨k, hk, he⟩ := List.getElem_of_mem hm
  exact indexByte_none h k (by rw [List.getElem?_eq_getElem hk, he])
 ·right
  obtain ⟨o, ho⟩ : ∃ o : Nat, Lib.indexByte l 58 = o := ⟨(Lib.indexByte l 58).toNat, by omega⟩
  obtain ⟨h2, h3⟩ := indexByte_some ho
  have hol : o < l.length := by omega
  refine ⟨l.take o, l.drop (o + 1), ?_, fun hm => ?_, ?_⟩
  ·have : l[o] = 58 := by rw [List.getElem?_eq_getElem hol] at h2; exact Option.some.inj h2
   rw [← this, ← List.drop_eq_getElem_cons hol, List.take_append_drop]
  ·obtain ⟨k, hk, he⟩ := List.getElem_of_mem hm
   have hko : k < o := by have := hk; simp at this; omega
   rw [List.getElem_take] at he
   exact h3 k hko (by rw [List.getElem?_eq_getElem (by omega), he])
  ·rw [ho, List.length_take]; omega
theorem Z5c {a b : List UInt8} (h : 58 ∉ a) : Lib.indexByte (a ++ 58 :: b) 58 = (a.length : Int) := by
 rcases Zih (a ++ 58 :: b) with ⟨_, h2⟩ | ⟨a', b', h2, h3, h4⟩
 ·exact absurd (by simp) h2
 ·have : a.length = a'.length := by
   have key : ∀ (a a' b b' : List UInt8), 58 ∉ a → 58 ∉ a' → a ++ 58 :: b = a' ++ 58 :: b' → a.length = a'.length := by
    intro a
    induction a with
    | nil =>
     intro a' b b' _ h2 h3
     cases a' with
     | nil => rfl
     | cons x a' =>
      injection h3 with e _
      exact absurd (e ▸ List.mem_cons_self ..) h2
    | cons x a ih =>
     intro a' b b' h1 h2 h3
     cases a' with
     | nil =>
      injection h3 with e _
      exact absurd (e ▸ List.mem_cons_self ..) h1
     | cons y a' =>
      injection h3 with _ e
      have := ih a' b b' (fun h => h1 (List.mem_cons_of_mem _ h)) (fun h => h2 (List.mem_cons_of_mem _ h)) e
      simp [this]
   exact key a a' b b' h h3 h2
  rw [h4, this]
theorem Zcy {s : ByteArray} {a b : List UInt8} (hs : s.data.toList = a ++ 58 :: b) (h : 58 ∉ a) : (Z21 s).1.data.toList = a ∧ (Z21 s).2.1.data.toList = b ∧ (Z21 s).2.2 = true := by
 have hl := Z8 s
 have hi : Lib.indexByte s.data.toList 58 = (a.length : Int) := by rw [hs]; exact Z5c h
 have hlen := congrArg List.length hs
 rw [List.length_append, List.length_cons] at hlen
 unfold Z21
 rw [if_pos (by omega), hi, Int.toNat_natCast]
 refine ⟨?_, ?_, rfl⟩
 ·rw [L_ex, List.drop_zero, hs, List.take_append_of_le_length (Nat.le_refl _), List.take_of_length_le (Nat.le_refl _)]
 ·show (s.extract (a.length + 1) s.size).data.toList = b
  rw [L_ex, List.take_of_length_le (by omega), hs]
  have : a ++ 58 :: b = (a ++ [58]) ++ b := by simp
  rw [this, List.drop_append_of_le_length (by simp), List.drop_of_length_le (by simp), List.nil_append]
theorem Zj4 {s : ByteArray} (h : 58 ∉ s.data.toList) : Z21 s = (s, bs_, false) := by
 rcases Zih s.data.toList with ⟨h1, _⟩ | ⟨a, b, h1, _⟩
 ·unfold Z21
  rw [h1, if_neg (by decide)]
 ·exact absurd (by rw [h1]; simp) h
def IsLab (s : ByteArray) : Prop := ∃ x y : ByteArray, s.data.toList = [47, 47] ++ (x.data.toList ++ 58 :: y.data.toList) ∧ 58 ∉ x.data.toList ∧ labF (x, y) = 0
theorem Z73 {s : ByteArray} (hs : s.size ≤ BIG) : ∃ b, Q1j.f s = some b ∧ (b = true ↔ IsLab s) := by
 have hb : BIG = 140737488355328 := rfl
 have hl := Z8 s
 have hw : ∀ a : ByteArray × ByteArray, a.1.size ≤ s.size → a.2.size ≤ s.size → Q2d.f a = some (((Q1g ++ a.1) ++ Q2v) ++ a.2) := fun a h1 h2 => by
  unfold Q2d.f
  have e1 : Q1g.size = 2 := rfl
  have e2 : Q2v.size = 1 := rfl
  simp only [ByteArray.size_append, e1, e2]
  rw [Z1 (by omega), Z1 (by omega), Z1 (by omega)]
 have hLw : ∀ a b : ByteArray, (((Q1g ++ a) ++ Q2v) ++ b).data.toList = [47, 47] ++ (a.data.toList ++ 58 :: b.data.toList) := fun a b => by
  rw [Zer, Zer, Zer, L_47, L_58]; simp
 unfold Q1j.f Q20.f
 simp only [decide_true, Bool.not_true, cb_f, Z6h, ob_s]
 by_cases hp : ∃ t, s.data.toList = Q1g.data.toList ++ t
 ·obtain ⟨t, ht⟩ := hp
  obtain ⟨c1, c2⟩ := Z72 ht
  have hsz : (cutP s Q1g).1.size ≤ s.size := by
   rw [Z8, c2]
   have := congrArg List.length ht
   rw [List.length_append] at this
   omega
  rw [L_47] at ht
  simp only [c1, cb_t, Zj5 (s := (cutP s Q1g).1) (by omega), ob_s]
  rcases Zih (cutP s Q1g).1.data.toList with ⟨_, hno⟩ | ⟨a, b, h1, h2, _⟩
  ·rw [Zj4 hno]
   obtain ⟨r, r1, r2⟩ := Zbm (s := (cutP s Q1g).1) (by omega)
   simp only [Bool.not_false, cb_t, r1, ob_s, Z3d, Z1g, Z5]
   refine ⟨false, ?_, fun h => (by cases h), fun ⟨x, y, h3, _, _⟩ => ?_⟩
   ·by_cases h0 : labF ((cutP s Q1g).1, r) = 0
    ·rw [if_pos h0]
     simp only [ob_s, if_true]
     rw [hw _ hsz (by show r.size ≤ _; omega), ob_s]
     refine congrArg some (decide_eq_false fun e => ?_)
     have e2 := congrArg (fun b : ByteArray => b.data.toList) e
     simp only [hLw] at e2
     rw [ht, c2] at e2
     have := congrArg List.length e2
     simp at this
    ·rw [if_neg h0]
     simp only [ob_s]
     rw [if_neg (by decide)]
   ·rw [ht, List.append_cancel_left_eq] at h3
    rw [c2, h3] at hno
    exact (hno (by simp)).elim
  ·obtain ⟨e1, e2, e3⟩ := Zcy h1 h2
   have hs1 : (Z21 (cutP s Q1g).1).1.size ≤ s.size ∧ (Z21 (cutP s Q1g).1).2.1.size ≤ s.size := by
    have := congrArg List.length h1
    rw [List.length_append, List.length_cons] at this
    have e4 := Z8 (cutP s Q1g).1
    rw [Z8, Z8 (Z21 (cutP s Q1g).1).2.1, e1, e2]
    omega
   simp only [e3, Bool.not_true, cb_f, Z3d, ob_s, Z1g, Z5]
   by_cases h0 : labF ((Z21 (cutP s Q1g).1).1, (Z21 (cutP s Q1g).1).2.1) = 0
   ·rw [if_pos h0]
    simp only [ob_s, if_true]
    rw [hw _ hs1.1 hs1.2, ob_s]
    refine ⟨true, congrArg some (decide_eq_true (Zd2 ?_)), fun _ => ⟨_, _, ?_, ?_, h0⟩, fun _ => rfl⟩
    ·rw [hLw, e1, e2, ← h1, c2, ht]
    ·rw [e1, e2, ← h1, c2, ht]
    ·rw [e1]; exact h2
   ·rw [if_neg h0]
    simp only [ob_s]
    rw [if_neg (by decide)]
    refine ⟨false, rfl, fun h => (by cases h), fun ⟨x, y, h3, h4, h5⟩ => ?_⟩
    rw [ht, List.append_cancel_left_eq, ← c2] at h3
    obtain ⟨f1, f2, _⟩ := Zcy h3 h4
    rw [Zd2 f1, Zd2 f2] at h0
    exact absurd h5 h0
 ·have hnl : ¬ IsLab s := fun ⟨x, y, h3, _, _⟩ => hp ⟨_, h3⟩
  rw [Za4 hp]
  simp only [cb_f]
  have fin : ∀ a : ByteArray × ByteArray, a.1.size ≤ s.size → a.2.size ≤ s.size → (ob (ob (Q14.f a) fun r16 => (cb (!decide (r16 = (0 : Int))) (some ((bs_, bs_), (10 : Int))) (some (a, (0 : Int))))) fun r1 => (cb (decide (r1.2 = (0 : Int))) (ob (Q2d.f r1.1) fun r2 => (some (decide (r2 = s)))) (some false))) = some false := fun a h1 h2 => by
   rw [Z3d, ob_s, Z1g, Z5]
   by_cases h0 : labF a = 0
   ·rw [if_pos h0]
    simp only [ob_s, Z5, if_true]
    rw [hw a h1 h2, ob_s]
    refine congrArg some (decide_eq_false fun e => ?_)
    have e2 := congrArg (fun b : ByteArray => b.data.toList) e
    simp only [hLw] at e2
    exact hp ⟨_, e2.symm⟩
   ·rw [if_neg h0]
    simp only [ob_s, Z5]
    rw [if_neg (by decide)]
  refine ⟨false, ?_, fun h => (by cases h), fun h => absurd h hnl⟩
  by_cases hq : ∃ t, s.data.toList = Q2v.data.toList ++ t
  ·obtain ⟨t, ht⟩ := hq
   obtain ⟨c1, c2⟩ := Z72 ht
   rw [c1, cb_t]
   refine fin (bs_, (cutP s Q2v).1) (Nat.zero_le _) ?_
   show (cutP s Q2v).1.size ≤ _
   rw [Z8, c2]
   have := congrArg List.length ht
   rw [List.length_append] at this
   omega
  ·rw [Za4 hq, cb_f]
   exact fin (bs_, bs_) (Nat.zero_le _) (Nat.zero_le _)
theorem Zg3 {s : ByteArray} (hs : s.size ≤ 100000000000) : ∃ b, Q26.f s = some b ∧ (b = true ↔ IsLab s) := by
 have hb : BIG = 140737488355328 := rfl
 have hl := Z8 s
 have hLw : ∀ a b : ByteArray, (((Q1g ++ a) ++ Q2v) ++ b).data.toList = [47, 47] ++ (a.data.toList ++ 58 :: b.data.toList) := fun a b => by
  rw [Zer, Zer, Zer, L_47, L_58]; simp
 have e1 : Q1g.size = 2 := rfl
 have e2 : Q2v.size = 1 := rfl
 have hpkg : Q2i.f bs_ = some true := rfl
 have lastE : ∀ x : ByteArray, Q2q.f x = Q2f.f x := fun x => rfl
 have fin : ∀ a : ByteArray × ByteArray, a.1.size ≤ s.size → a.2.size ≤ s.size → (ob (ob (Q1h.f a) fun r4 => (cb (!decide (r4 = (0 : Int))) (some ((bs_, bs_), (10 : Int))) (some (a, (0 : Int))))) fun r1 => (cb (decide (r1.2 = (0 : Int))) (ck (((ByteArray.size Q1g + ByteArray.size r1.1.1 : Nat) : Int) ≤ 9223372036854775807) (ck (((ByteArray.size (Q1g ++ r1.1.1) + ByteArray.size Q2v : Nat) : Int) ≤ 9223372036854775807) (let y2 : ByteArray := ((Q1g ++ r1.1.1) ++ Q2v); (ck (((ByteArray.size y2 + ByteArray.size r1.1.2 : Nat) : Int) ≤ 9223372036854775807) (some (decide (s = (y2 ++ r1.1.2)))))))) (some false))) = some (decide (labF a = 0) && decide (s = ((Q1g ++ a.1) ++ Q2v) ++ a.2)) := fun a h1 h2 => by
  rw [Zck (by omega) (by omega), ob_s, Z1g, Z5]
  by_cases h0 : labF a = 0
  ·rw [if_pos h0, decide_eq_true h0, Bool.true_and]
   simp only [ob_s, Z5, if_true, ByteArray.size_append, e1, e2]
   rw [Z1 (by omega), Z1 (by omega), Z1 (by omega)]
  ·rw [if_neg h0, decide_eq_false h0, Bool.false_and]
   simp only [ob_s, Z5]
   rw [if_neg (by decide)]
 have err : (ob (some ((bs_, bs_), (10 : Int))) fun r1 => (cb (decide (r1.2 = (0 : Int))) (ck (((ByteArray.size Q1g + ByteArray.size r1.1.1 : Nat) : Int) ≤ 9223372036854775807) (ck (((ByteArray.size (Q1g ++ r1.1.1) + ByteArray.size Q2v : Nat) : Int) ≤ 9223372036854775807) (let y2 : ByteArray := ((Q1g ++ r1.1.1) ++ Q2v); (ck (((ByteArray.size y2 + ByteArray.size r1.1.2 : Nat) : Int) ≤ 9223372036854775807) (some (decide (s = (y2 ++ r1.1.2)))))))) (some false))) = some false := by
  simp only [ob_s, Z5]
  rw [if_neg (by decide)]
 unfold Q26.f Q2c.f
 simp only [hpkg, ob_s, Bool.not_true, cb_f, Zj5 (s := s) (by omega), Z6h]
 rcases Zih s.data.toList with ⟨_, hno⟩ | ⟨a, b, h1, h2, _⟩
 ·
  have hnl : ¬ IsLab s := fun ⟨x, y, h3, _, _⟩ => hno (by rw [h3]; simp)
  rw [Zj4 hno]
  simp only [cb_f]
  refine ⟨false, ?_, fun h => (by cases h), fun h => absurd h hnl⟩
  by_cases hp : ∃ t, s.data.toList = Q1g.data.toList ++ t
  ·obtain ⟨t, ht⟩ := hp
   obtain ⟨c1, c2⟩ := Z72 ht
   have hsz : (cutP s Q1g).1.size ≤ s.size := by
    rw [Z8, c2]
    have := congrArg List.length ht
    rw [List.length_append] at this
    omega
   obtain ⟨r, r1, r2⟩ := Zbm (s := (cutP s Q1g).1) (by omega)
   simp only [c1, cb_t, Z1g, Z5, lastE, r1, ob_s]
   by_cases h0 : (cutP s Q1g).1 = bs_
   ·rw [if_pos h0]; exact err
   ·rw [if_neg h0]
    have := fin ((cutP s Q1g).1, r) hsz (by show r.size ≤ _; omega)
    simp only [Z1g, Z5] at this
    rw [this]
    refine congrArg some ?_
    rw [Bool.and_eq_false_iff]
    right
    refine decide_eq_false fun e => ?_
    have e2 := congrArg (fun b : ByteArray => b.data.toList) e
    simp only [hLw] at e2
    exact hno (by rw [e2]; simp)
  ·rw [Za4 hp]
   simp only [cb_f]
   exact err
 ·obtain ⟨f1, f2, f3⟩ := Zcy h1 h2
  have hla : (Z21 s).1.size ≤ s.size ∧ (Z21 s).2.1.size ≤ s.size := by
   have := congrArg List.length h1
   rw [List.length_append, List.length_cons] at this
   rw [Z8 (Z21 s).1, Z8 (Z21 s).2.1, f1, f2]
   omega
  rw [f3]
  simp only [cb_t, Z5]
  by_cases h0 : (Z21 s).1 = bs_
  ·rw [if_pos h0]
   have ha : a = [] := by rw [← f1, h0]; rfl
   subst ha
   have hnl : ¬ IsLab s := fun ⟨x, y, h3, _, _⟩ => by
    rw [h1] at h3
    injection h3 with e _
    cases e
   have := fin (bs_, (Z21 s).2.1) (Nat.zero_le _) hla.2
   simp only [Z1g, Z5] at this ⊢
   rw [this]
   refine ⟨_, rfl, fun h => ?_, fun h => absurd h hnl⟩
   rw [Bool.and_eq_true, decide_eq_true_eq, decide_eq_true_eq] at h
   have e2 := congrArg (fun b : ByteArray => b.data.toList) h.2
   simp only [hLw] at e2
   rw [h1] at e2
   injection e2 with e _
   cases e
  ·rw [if_neg h0]
   by_cases hp : ∃ t, (Z21 s).1.data.toList = Q1g.data.toList ++ t
   ·obtain ⟨t, ht⟩ := hp
    obtain ⟨c1, c2⟩ := Z72 ht
    have hsz : (cutP (Z21 s).1 Q1g).1.size ≤ s.size := by
     rw [Z8, c2]
     have := congrArg List.length ht
     rw [List.length_append, ← Z8] at this
     omega
    simp only [c1, cb_t]
    have := fin ((cutP (Z21 s).1 Q1g).1, (Z21 s).2.1) hsz hla.2
    simp only [Z1g, Z5] at this ⊢
    rw [this]
    rw [f1, L_47] at ht
    have hsl : s.data.toList = [47, 47] ++ (t ++ 58 :: b) := by rw [h1, ht]; simp
    refine ⟨_, rfl, fun h => ?_, fun ⟨x, y, h3, h4, h5⟩ => ?_⟩
    ·rw [Bool.and_eq_true, decide_eq_true_eq, decide_eq_true_eq] at h
     refine ⟨_, _, ?_, ?_, h.1⟩
     ·rw [c2, f2]; exact hsl
     ·rw [c2]; exact fun hm => h2 (by rw [ht]; exact List.mem_append_right _ hm)
    ·rw [hsl, List.append_cancel_left_eq] at h3
     have ht58 : 58 ∉ t := fun hm => h2 (by rw [ht]; exact List.mem_append_right _ hm)
     have hlen : (t.length : Int) = (x.data.toList.length : Int) := by
      rw [← Z5c (b := b) ht58, h3, Z5c h4]
     obtain ⟨g1, g2⟩ := List.append_inj h3 (by omega)
     injection g2 with _ g2
     have ex : (cutP (Z21 s).1 Q1g).1 = x := Zd2 (by rw [c2, g1])
     have ey : (Z21 s).2.1 = y := Zd2 (by rw [f2, g2])
     rw [ex, ey, decide_eq_true h5, Bool.true_and]
     refine decide_eq_true (Zd2 ?_)
     rw [hLw, hsl, g1, g2]
   ·rw [Za4 hp]
    simp only [cb_f]
    refine ⟨false, err, fun h => (by cases h), fun ⟨x, y, h3, h4, _⟩ => absurd ⟨x.data.toList, ?_⟩ hp⟩
    rw [f1, L_47]
    have h5 : a ++ 58 :: b = ([47, 47] ++ x.data.toList) ++ 58 :: y.data.toList := by rw [← h1, h3]; simp
    have h58 : (58 : UInt8) ∉ [47, 47] ++ x.data.toList := fun hm => by
     rcases List.mem_append.1 hm with h | h
     ·revert h; decide
     ·exact h4 h
    have hlen : (a.length : Int) = (([47, 47] ++ x.data.toList).length : Int) := by
     rw [← Z5c (b := b) h2, h5, Z5c h58]
    exact (List.append_inj h5 (by omega)).1
theorem Zi3 {s : ByteArray} (hs : s.size ≤ 100000000000) : Q26.f s = Q1j.f s ∧ ∃ b, Q1j.f s = some b := by
 have hb : BIG = 140737488355328 := rfl
 obtain ⟨b1, h1, h2⟩ := Z73 (s := s) (by omega)
 obtain ⟨b2, h3, h4⟩ := Zg3 hs
 have : b1 = b2 := by rw [Bool.eq_iff_iff, h2, h4]
 rw [h1, h3, this]
 exact ⟨rfl, _, rfl⟩
end Go.Proofs.YtahlodpolggeiaaGreatDoor
set_option linter.unusedVariables false
set_option linter.unusedSimpArgs false
namespace Go.Proofs.YtahlodpolggeiaaGreatDoor
open Go Go.Lib Go.Proofs.YtahlodpolggeiaaGreatDoor.Eng
abbrev Wr := ByteArray × (ByteArray × ((List ByteArray) × (Int × Int)))
theorem Zh1 {β : Type} {c : Prop} {a : Option β} (h : ¬ c) : ck c a = none := by unfold ck; rw [if_neg h]
theorem Z7e (s p : ByteArray) : Q1i.f s p = some (hasP s p) := by
 unfold Q1i.f
 rw [Z6e]; rfl
def szW (w : Wr) : Prop := w.1.size ≤ 100000000000 ∧ w.2.1.size ≤ 100000000000 ∧ ∀ y ∈ w.2.2.1, y.size ≤ 100000000000
theorem Z4r (a b c : Int) : Q1k.f a b c = some (decide (b ≤ a ∧ a ≤ c)) := by
 unfold Q1k.f
 rw [Z5]
 by_cases h : b ≤ a <;> simp [h]
end Go.Proofs.YtahlodpolggeiaaGreatDoor
set_option linter.unusedVariables false
set_option linter.unusedSimpArgs false
namespace Go.Proofs.YtahlodpolggeiaaGreatDoor
open Go Go.Lib Go.Proofs.YtahlodpolggeiaaGreatDoor.Eng
def labs (g : List Wr) : List ByteArray := g.map (·.1)
theorem Z6u {g : List Wr} {k : Nat} (h : k < g.length) : (labs g)[k]'(by unfold labs; simpa using h) = g[k].1 := by simp [labs]
theorem Z9t (n : Wr) (s : ByteArray) : Q2h.f n s = some (cmpS n.1 s) := rfl
theorem half {a b : Nat} (ha : a ≤ 100000000000) (hb : b ≤ 100000000000) : IntKind.i64.wrap (Int.fdiv (IntKind.u64.wrap ((a : Int) + (b : Int))) (2 ^ min (Int.toNat (1 : Int)) (IntKind.bits .u64))) = ((a + b) / 2 : Nat) := by
 have e1 : IntKind.u64.wrap ((a : Int) + (b : Int)) = ((a + b : Nat) : Int) := by
  simp only [IntKind.wrap, IntKind.bits, IntKind.signed, Bool.false_and, Bool.false_eq_true, if_false]
  have e : (2 : Int) ^ 64 = 18446744073709551616 := by decide
  rw [e]; omega
 have e2 : (2 : Int) ^ min (Int.toNat (1 : Int)) (IntKind.bits .u64) = 2 := by decide
 rw [e1, e2]
 have e3 : Int.fdiv ((a + b : Nat) : Int) 2 = ((a + b) / 2 : Nat) := by
  rw [Int.fdiv_eq_ediv_of_nonneg _ (by decide)]; omega
 rw [e3]
 exact IntWalk.i64_in _ ⟨by omega, by omega⟩
theorem find_ok {g : List Wr} (hl : g.length ≤ 1000) (hr : Rising (labs g)) (s : ByteArray) : ∃ r, Q2r.f g s = some r ∧ ((r.2 = false ∧ ∀ k : Nat, ∀ h : k < g.length, g[k].1 ≠ s) ∨ ∃ k : Nat, ∃ h : k < g.length, r = (g[k], true) ∧ g[k].1 = s) := by
 have go : ∀ (n a b : Nat), b - a = n → a ≤ b → b ≤ g.length → (∀ k : Nat, ∀ h : k < g.length, k < a → cmpS g[k].1 s < 0) → (∀ k : Nat, ∀ h : k < g.length, b ≤ k → ¬ cmpS g[k].1 s < 0) →
   ∃ c : Nat, Q0.l0 g s (a : Int) (b : Int) = some (c : Int) ∧ c ≤ g.length ∧ (∀ k : Nat, ∀ h : k < g.length, k < c → cmpS g[k].1 s < 0) ∧ (∀ k : Nat, ∀ h : k < g.length, c ≤ k → ¬ cmpS g[k].1 s < 0) := by
  intro n
  induction n using Nat.strongRecOn with
  | _ n ih =>
   intro a b hn hab hb h1 h2
   rcases Nat.lt_or_ge a b with hlt | hge
   ·have hm : (a + b) / 2 < g.length := by omega
    have hh := half (a := a) (b := b) (by omega) (by omega)
    have hmono : ∀ i j : Nat, ∀ hi : i < g.length, ∀ hj : j < g.length, i < j → cmpS g[i].1 g[j].1 < 0 := fun i j hi hj hij => by
     have := hr i j (by unfold labs; simpa using hj) hij
     rw [Z6u hi, Z6u hj] at this
     exact this
    by_cases hc : cmpS g[(a + b) / 2].1 s < 0
    ·obtain ⟨c, h3, h4⟩ := ih (b - ((a + b) / 2 + 1)) (by omega) ((a + b) / 2 + 1) b rfl (by omega) hb (fun k hk hka => by
      rcases Nat.lt_or_ge k ((a + b) / 2) with h | h
      ·exact Z93 (hmono k _ hk hm h) hc
      ·have : k = (a + b) / 2 := by omega
       subst this; exact hc) h2
     refine ⟨c, (Z4 ?_).trans h3, h4⟩
     simp only [Q0.s0, Z5, hh, Z12 hm, Z9t, ob_s]
     rw [if_pos (by omega), Zk (by omega) (by omega), Z1 (by omega), if_pos hc, Zk (by omega) (by omega)]
     rfl
    ·obtain ⟨c, h3, h4⟩ := ih ((a + b) / 2 - a) (by omega) a ((a + b) / 2) rfl (by omega) (by omega) h1 (fun k hk hka => by
      intro h
      rcases Nat.lt_or_ge ((a + b) / 2) k with h5 | h5
      ·exact hc (Z93 (hmono _ k hm hk h5) h)
      ·have : k = (a + b) / 2 := by omega
       subst this; exact hc h)
     refine ⟨c, (Z4 ?_).trans h3, h4⟩
     simp only [Q0.s0, Z5, hh, Z12 hm, Z9t, ob_s]
     rw [if_pos (by omega), Zk (by omega) (by omega), Z1 (by omega), if_neg hc]
   ·have e : a = b := by omega
    subst e
    refine ⟨a, Z3 ?_, hb, h1, h2⟩
    simp only [Q0.s0, Z5]
    rw [if_neg (by omega)]
 obtain ⟨c, h1, h2, h3, h4⟩ := go _ 0 g.length rfl (Nat.zero_le _) (Nat.le_refl _) (fun k _ h => absurd h (Nat.not_lt_zero _)) (fun k hk h => by omega)
 rw [show ((0 : Nat) : Int) = 0 from rfl] at h1
 unfold Q2r.f Q0.f
 simp only [h1, ob_s, Z5]
 by_cases hc : c < g.length
 ·rw [if_pos (by omega), Z1 (by omega)]
  simp only [Z12 hc, Z9t, ob_s]
  by_cases h0 : cmpS g[c].1 s = 0
  ·simp only [h0, decide_true, Bool.not_true, cb_f]
   rw [Z1 (by omega)]
   exact ⟨_, rfl, .inr ⟨c, hc, rfl, (Z5k _ _).1 h0⟩⟩
  ·simp only [h0, decide_false, Bool.not_false, cb_t]
   refine ⟨_, rfl, .inl ⟨rfl, fun k hk e => ?_⟩⟩
   have hz : cmpS g[k].1 s = 0 := (Z5k _ _).2 e
   rcases Nat.lt_trichotomy k c with h | h | h
   ·have := h3 k hk h; omega
   ·subst h; exact h0 hz
   ·have h5 := hr c k (by unfold labs; simpa using hk) h
    rw [Z6u hc, Z6u hk, e] at h5
    exact h4 c hc (Nat.le_refl _) h5
 ·rw [if_neg (by omega)]
  simp only [ob_s, Bool.not_false, cb_t]
  refine ⟨_, rfl, .inl ⟨rfl, fun k hk e => ?_⟩⟩
  have hz : cmpS g[k].1 s = 0 := (Z5k _ _).2 e
  have := h3 k hk (by omega)
  omega
def mayB (w : Wr) (s : ByteArray) (t : Int) : Bool := decide (w.2.2.2.1 ≤ t) && (decide (t < w.2.2.2.2) && w.2.2.1.any (fun p => hasP s p))
theorem may_eq {w : Wr} (hw : w.2.2.1.length ≤ 100000000000) (s : ByteArray) (t : Int) : Q2s.f w s t = some (mayB w s t) := by
 have go : ∀ (n k : Nat), w.2.2.1.length - k = n → ∃ r, Q3.l0 w.2.2.1 s (w.2.2.1.length : Int) (k : Int) = some r ∧ ((r = .inr () ∧ (w.2.2.1.drop k).any (fun p => hasP s p) = false) ∨ ∃ i : Nat, r = .inl (i : Int) ∧ (w.2.2.1.drop k).any (fun p => hasP s p) = true) := by
  intro n
  induction n with
  | zero =>
   intro k hn
   refine ⟨.inr (), Z3 ?_, .inl ⟨rfl, by rw [List.drop_eq_nil_of_le (by omega)]; rfl⟩⟩
   simp only [Q3.s0, Z5]
   rw [if_neg (by omega)]
  | succ n ih =>
   intro k hn
   have hlt : k < w.2.2.1.length := by omega
   rw [List.drop_eq_getElem_cons hlt, List.any_cons]
   cases e : hasP s w.2.2.1[k] with
   | true =>
    refine ⟨.inl (k : Int), Z3 ?_, .inr ⟨k, rfl, rfl⟩⟩
    simp only [Q3.s0, Z5, Z12 hlt, Q2n.f, Z7e, e, ob_s, cb_t]
    rw [if_pos (by omega), Z1 (by omega)]
   | false =>
    obtain ⟨r, h1, h2⟩ := ih (k + 1) (by omega)
    refine ⟨r, (Z4 ?_).trans h1, by simpa using h2⟩
    simp only [Q3.s0, Z5, Z12 hlt, Q2n.f, Z7e, e, ob_s, cb_f]
    rw [if_pos (by omega), Z1 (by omega), Zk (by omega) (by omega)]
    rfl
 obtain ⟨r, h1, h2⟩ := go _ 0 rfl
 rw [show ((0 : Nat) : Int) = 0 from rfl, List.drop_zero] at *
 have hc : Qi.f w.2.2.1 s = some (w.2.2.1.any (fun p => hasP s p)) := by
  unfold Qi.f Q3.f
  simp only [h1, ob_s]
  rcases h2 with ⟨rfl, h3⟩ | ⟨i, rfl, h3⟩
  ·rw [h3]; rfl
  ·rw [h3]
   simp only [Za5, ob_s]
   rw [decide_eq_true (by omega)]
 unfold Q2s.f mayB
 simp only [hc, ob_s]
 cases decide (w.2.2.2.1 ≤ t) with
 | false => rfl
 | true =>
  cases decide (t < w.2.2.2.2) with
  | false => rfl
  | true => rfl
end Go.Proofs.YtahlodpolggeiaaGreatDoor
set_option linter.unusedVariables false
set_option linter.unusedSimpArgs false
namespace Go.Proofs.YtahlodpolggeiaaGreatDoor
open Go Go.Lib Go.Proofs.YtahlodpolggeiaaGreatDoor.Eng
theorem nq_same {β : Type} {c : Prop} {a : Option β} : nq c a a = a := by
 unfold nq
 split
 ·rfl
 ·cases a <;> simp
theorem cloneS {l : List ByteArray} (h : l.length * 16 ≤ 140737488355328) : Q12.f l = some l := by
 unfold Q12.f
 by_cases he : l = []
 ·subst he
  rw [Z1 (by simp)]
  exact nq_same
 ·unfold nq
  rw [if_pos he, Z1 (by simp; omega)]
  rfl
theorem Zgr {l : List ByteArray} (hl : l.length ≤ 1000000000000) : Q8.f l l = some true := by
 have go : ∀ (n k : Nat), l.length - k = n → Q8.l0 l l (l.length : Int) (k : Int) = some (.inr ()) := by
  intro n
  induction n with
  | zero =>
   intro k hn
   refine Z3 ?_
   simp only [Q8.s0, Z5]
   rw [if_neg (by omega)]
  | succ n ih =>
   intro k hn
   have hlt : k < l.length := by omega
   refine (Z4 ?_).trans (ih (k + 1) (by omega))
   simp only [Q8.s0, Z5, Z12 hlt, Z1g, if_true]
   rw [if_pos (by omega), Z1 (by omega), Z1 (by omega), Zk (by omega) (by omega)]
   rfl
 have h := go l.length 0 (by omega)
 rw [show ((0 : Nat) : Int) = 0 from rfl] at h
 unfold Q8.f
 simp only [Z1g, Z5, if_true, h, ob_s, Z3e]
theorem Zh2 {β : Type} {c : Prop} [h : Decidable c] {a : Option β} : ck c a = if c then a else none := by
 by_cases hc : c
 ·rw [Z1 hc, if_pos hc]
 ·rw [Zh1 hc, if_neg hc]
local instance (x : Int) : Decidable (InR x) := inferInstanceAs (Decidable (_ ∧ _))
theorem Z8l {s : ByteArray} (hs : s.size ≤ 100000000000) (h : Lib.countByte s.data.toList 47 = 0) : Z15 s = [s] := by
 have h1 : Q1o.f s Q2w = some [s] := by
  have hcnt : Q2t.f s Q2w = some 0 := by
   unfold Q2t.f
   rw [Z1 (by rfl)]
   show some ((Lib.countByte s.data.toList 47 : Nat) : Int) = _
   rw [h]; rfl
  have l : Qp.l0 Q2w 0 (1 - 1) s 0 (List.replicate 1 ByteArray.empty) = some (s, 0, List.replicate 1 ByteArray.empty) := Z3 (by rfl)
  have e : ((min (0 + 1) (((s.size : Nat) : Int) + 1) : Int)) = 1 := by omega
  have e1 : Int.toNat 1 = 1 := rfl
  unfold Q1o.f Qp.f
  simp only [hcnt, ob_s, e, e1, l]
  rw [show decide ((-1 : Int) = 0) = false from rfl, cb_f, show decide (Q2w = bs_) = false from rfl, cb_f, show decide ((-1 : Int) < 0) = true from rfl, cb_t, Zk (by omega) (by omega), Zk (by omega) (by omega), Z1 (by omega), Zk (by omega) (by omega)]
  simp only [Zh2]
  rfl
 unfold Z15
 rw [h1]; rfl
abbrev W1 : Wr := (Q2x, (Q2z, ([Q2k], (0, 5))))
theorem writer1 : Qq.f W1 = some 0 := by
 have l : Qq.l0 W1 [Q2k] 1 0 = some (.inr ()) := by
  refine (Z4 (x' := 1) ?_).trans (Z3 (by rfl))
  have e : rd ByteArray.empty [Q2k] 0 = Q2k := rfl
  simp only [Qq.s0, e, Z7e, Z8v, ob_s, show hasP Q2k Q1g = true from by decide, show Zdd Q2k = true from by decide, Zh2]
  rfl
 have s1 : Q25.f Q2z = some true := by
  unfold Q25.f
  rw [Z8v, show Zdd Q2z = true from by decide]
  rfl
 unfold Qq.f
 simp only [Z5b, show Z86 Q2x = true from by decide, s1, ob_s, Z4r]
 show cb _ _ (cb _ _ (cb _ _ (ob (Qq.l0 W1 [Q2k] 1 0) _))) = _
 rw [l]
 rfl
theorem check1 : Qh.f [W1] = some 0 := by
 have l : Qh.l0 [W1] [W1] 1 0 = some (.inr ()) := by
  refine (Z4 (x' := 1) ?_).trans (Z3 (by rfl))
  have e : rd (ByteArray.empty, (ByteArray.empty, (([] : List ByteArray), ((0 : Int), (0 : Int))))) [W1] 0 = W1 := rfl
  simp only [Qh.s0, e, writer1, ob_s, Zh2]
  rfl
 unfold Qh.f
 show cb _ _ (ob (Qh.l0 [W1] [W1] 1 0) _) = _
 rw [l]
 rfl
def Q31 : ByteArray := ⟨#[97, 112, 112, 108, 101]⟩
def Q32 : ByteArray := ⟨#[120]⟩
theorem whole1 : Q1j.f Q1f = some true := by
 obtain ⟨b, h1, h2⟩ := Z73 (s := Q1f) (by decide)
 have : b = true := h2.2 ⟨Q31, Q32, rfl, by decide, by
  unfold labF Z1l
  rw [Z8l (s := Q31) (by decide) (by decide), Z8l (s := Q32) (by decide) (by decide)]
  rfl⟩
 rw [h1, this]
theorem may1 (t : Int) (h0 : 0 ≤ t) (h1 : t ≤ 1000000000) : Q2o.f [W1] Q2x Q1f t = some (mayB W1 Q1f t, 0) := by
 have hr : Rising (labs [W1]) := fun i j h h' => by
  have : j < 1 := h
  omega
 obtain ⟨r, r1, r2⟩ := find_ok (g := [W1]) (by decide) hr Q2x
 have hr2 : r = (W1, true) := by
  rcases r2 with ⟨_, h⟩ | ⟨k, hk, e, _⟩
  ·exact absurd rfl (h 0 (by decide))
  ·have : k = 0 := by simp at hk; exact hk
   subst this
   exact e
 unfold Q2o.f
 simp only [check1, ob_s, Z5b, show Z86 Q2x = true from by decide, whole1, Z4r, decide_eq_true (show 0 ≤ t ∧ t ≤ 1000000000 from ⟨h0, h1⟩), r1, hr2, may_eq (w := W1) (by decide)]
 rfl
theorem awake11 : Q2m.f = some true := by
 have m1 : mayB W1 Q1f 4 = true := by decide
 have m2 : mayB W1 Q1f 5 = false := by decide
 have a1 := may1 4 (by decide) (by decide)
 have a2 := may1 5 (by decide) (by decide)
 rw [m1] at a1
 rw [m2] at a2
 unfold Q2m.f
 show ob (Q2o.f [W1] Q2x Q1f 4) _ = _
 rw [a1, ob_s]
 show ob (Q2o.f [W1] Q2x Q1f 5) _ = _
 rw [a2, ob_s]
 rfl
end Go.Proofs.YtahlodpolggeiaaGreatDoor
set_option linter.unusedVariables false
set_option linter.unusedSimpArgs false
namespace Go.Proofs.YtahlodpolggeiaaGreatDoor
open Go Go.Lib Go.Proofs.YtahlodpolggeiaaGreatDoor.Eng
abbrev Cl := ByteArray × (ByteArray × (ByteArray × (ByteArray × (Int × ((List ByteArray) × ByteArray)))))
def szC (c : Cl) : Prop := c.2.1.size ≤ BIG
def szR (c : Cl) : Prop := c.2.1.size ≤ 100000000000
theorem szR.toC {c : Cl} (h : szR c) : szC c := Nat.le_trans h (by decide)
abbrev hexCs : ByteArray := Q2e
def digC (c : UInt8) : Bool := decide (48 ≤ c.toNat ∧ c.toNat ≤ 57) || decide (97 ≤ c.toNat ∧ c.toNat ≤ 102)
theorem digC_eq (c : UInt8) : hexCs.data.toList.contains c = digC c := by
 have h : ((List.range 256).all fun n => hexCs.data.toList.contains (UInt8.ofNat n) == digC (UInt8.ofNat n)) = true := by decide +kernel
 have := List.all_eq_true.1 h c.toNat (List.mem_range.2 c.toNat_lt)
 simpa using this
def digB (s : ByteArray) : Bool := decide (s.size = 16) && s.data.toList.all digC
theorem Z3a (s : ByteArray) : Q1q.f s = some (digB s) := by
 unfold Q1q.f digB
 simp only [Z5]
 by_cases h : s.size = 16
 ·rw [if_pos (by omega)]
  unfold Q2j.f
  rw [Z1 ⟨by omega, by decide, by decide +kernel⟩, ob_s]
  congr 1
  rw [decide_eq_true h, Bool.true_and]
  have e : (⟨(trimS s.data.toList hexCs.data.toList).toArray⟩ = bs_) ↔ s.data.toList.all digC = true := by
   rw [show (s.data.toList.all digC = true) ↔ (s.data.toList.all (fun c => hexCs.data.toList.contains c) = true) by simp only [digC_eq], ← Zd4]
   constructor
   ·intro h
    have := congrArg (fun b : ByteArray => b.data.toList) h
    simpa [bs_] using this
   ·intro h
    rw [h]; rfl
  cases hh : s.data.toList.all digC with
  | true => exact decide_eq_true (e.2 hh)
  | false => exact decide_eq_false (fun h => by rw [e.1 h] at hh; cases hh)
 ·rw [if_neg (by omega), decide_eq_false h]; rfl
theorem Z7v {s : ByteArray} (h : digB s = true) : s.size = 16 := by
 unfold digB at h
 simp only [Bool.and_eq_true, decide_eq_true_eq] at h
 exact h.1
theorem Z8i {s : ByteArray} (h : Z86 s = true) : s.size ≤ 40 := by
 unfold Z86 at h
 split at h
 ·rename_i h1; exact h1.2
 ·cases h
theorem Zhi {c : Cl} (hn : c.2.2.2.2.2.1.length ≤ 50) : ∀ (n k : Nat), c.2.2.2.2.2.1.length - k = n → ∃ r, Qd.l0 c c.2.2.2.2.2.1 (c.2.2.2.2.2.1.length : Int) (k : Int) = some r ∧ ((r = .inr () ∧ ∀ j : Nat, ∀ h : j < c.2.2.2.2.2.1.length, k ≤ j → digB c.2.2.2.2.2.1[j] = true) ∨ ∃ f : Int, f ≠ 0 ∧ r = .inl f) := by
 intro n
 induction n with
 | zero =>
  intro k hk
  refine ⟨.inr (), Z3 ?_, .inl ⟨rfl, fun j h1 h2 => by omega⟩⟩
  simp only [Qd.s0, Z5]
  rw [if_neg (by omega)]
 | succ n ih =>
  intro k hk
  have hlt : k < c.2.2.2.2.2.1.length := by omega
  obtain ⟨r, h1, h2⟩ := ih (k + 1) (by omega)
  have e : ((k : Int) + 1) = ((k + 1 : Nat) : Int) := by omega
  by_cases hd : digB c.2.2.2.2.2.1[k] = true
  ·have next : Qd.s0 c c.2.2.2.2.2.1 (c.2.2.2.2.2.1.length : Int) (k : Int) = some (.inl ((k + 1 : Nat) : Int)) ∨ Qd.s0 c c.2.2.2.2.2.1 (c.2.2.2.2.2.1.length : Int) (k : Int) = some (.inr (.inl 8)) := by
    simp only [Qd.s0, Z5]
    rw [if_pos (by omega), Z1 ⟨by omega, by omega⟩, Z12 hlt]
    simp only [Z3a, hd, ob_s, Bool.not_true, cb_f]
    by_cases h0 : 0 < k
    ·rw [if_pos (by omega), Zk (by omega) (by omega), Z1 ⟨by omega, by omega⟩]
     cases Za8 c.2.2.2.2.2.1[k] (rd ByteArray.empty c.2.2.2.2.2.1 ((k : Int) - 1)) || decide (c.2.2.2.2.2.1[k] = rd ByteArray.empty c.2.2.2.2.2.1 ((k : Int) - 1)) with
     | true => exact .inr rfl
     | false => rw [cb_f, Zk (by omega) (by omega), e]; exact .inl rfl
    ·rw [if_neg (by omega), Zk (by omega) (by omega), e]; exact .inl rfl
   rcases next with hs | hs
   ·refine ⟨r, (Z4 hs).trans h1, ?_⟩
    rcases h2 with ⟨h2, h3⟩ | h2
    ·refine .inl ⟨h2, fun j hj hkj => ?_⟩
     rcases Nat.eq_or_lt_of_le hkj with rfl | h4
     ·exact hd
     ·exact h3 j hj h4
    ·exact .inr h2
   ·exact ⟨.inl 8, Z3 hs, .inr ⟨8, by decide, rfl⟩⟩
  ·refine ⟨.inl 3, Z3 ?_, .inr ⟨3, by decide, rfl⟩⟩
   simp only [Qd.s0, Z5]
   rw [if_pos (by omega), Z1 ⟨by omega, by omega⟩, Z12 hlt]
   simp only [Z3a, Bool.not_eq_true _ ▸ hd, ob_s]
   rfl
structure OkC (c : Cl) : Prop where
 key : digB c.1 = true
 label : c.2.1.size ≤ 403
 whole : Q1j.f c.2.1 = some true
 result : digB c.2.2.1 = true
 writer : Z86 c.2.2.2.1 = true
 at0 : 0 ≤ c.2.2.2.2.1
 at1 : c.2.2.2.2.1 ≤ 1000000000
 many : c.2.2.2.2.2.1.length ≤ 50
 uses : ∀ y ∈ c.2.2.2.2.2.1, y.size = 16
 sign : c.2.2.2.2.2.2.size ≤ 16
theorem IsLab.size {s : ByteArray} (h : IsLab s) : s.size ≤ 403 := by
 obtain ⟨x, y, h1, h2, h3⟩ := h
 have hp : ∀ z : ByteArray, Z1l z = true → z.size ≤ 200 := fun z hz => by
  unfold Z1l at hz
  split at hz
  ·rename_i h; exact h.2
  ·cases hz
 unfold labF at h3
 split at h3
 ·rename_i h4
  have hx : x.size ≤ 200 := by
   rcases h4.1 with h5 | h5
   ·have h5 : x = bs_ := h5
    rw [h5]; decide
   ·exact hp _ h5
  have hy := hp _ h4.2
  have hl := congrArg List.length h1
  simp only [List.length_append, List.length_cons, List.length_nil] at hl
  rw [← Z8, ← Z8, ← Z8] at hl
  have hx : ByteArray.size x ≤ 200 := hx
  have hy : ByteArray.size y ≤ 200 := hy
  omega
 ·cases h3
theorem checkR {c : Cl} (hs : szR c) : Qd.f c = Qt.f c := by
 obtain ⟨hl, b, hb⟩ := Zi3 (s := c.2.1) hs
 unfold Qd.f Qt.f
 rw [hl, Z5b, Zeh]
 rfl
theorem Zj7 {c : Cl} (hs : szC c) : ∃ f : Int, Qd.f c = some f ∧ (f = 0 → OkC c) := by
 obtain ⟨b, hb, hbl⟩ := Z73 (s := c.2.1) hs
 unfold Qd.f
 simp only [Z3a, Z5b, Z4r, hb, ob_s, Z1g]
 cases g1 : digB c.1 with
 | false => exact ⟨3, rfl, fun h => by cases h⟩
 | true =>
  cases b with
  | false => exact ⟨10, rfl, fun h => by cases h⟩
  | true =>
   have gl := IsLab.size (hbl.1 rfl)
   cases g3 : digB c.2.2.1 with
   | false => exact ⟨3, rfl, fun h => by cases h⟩
   | true =>
    cases g4 : Z86 c.2.2.2.1 with
    | false => exact ⟨5, rfl, fun h => by cases h⟩
    | true =>
     simp only [cb_t, Z5]
     by_cases g5 : (0 : Int) ≤ c.2.2.2.2.1 ∧ c.2.2.2.2.1 ≤ 1000000000
     ·rw [if_pos g5]
      by_cases g6 : 50 < c.2.2.2.2.2.1.length
      ·rw [if_pos (by omega)]
       exact ⟨2, rfl, fun h => by cases h⟩
      ·rw [if_neg (by omega)]
       obtain ⟨r, h8, h9⟩ := Zhi (c := c) (by omega) _ 0 rfl
       rw [show ((0 : Nat) : Int) = 0 from rfl] at h8
       rw [h8, ob_s]
       rcases h9 with ⟨rfl, h9⟩ | ⟨f, hf, rfl⟩
       ·rw [Z3e]
        by_cases g7 : c.2.2.2.2.2.2 = bs_
        ·rw [if_pos g7]
         refine ⟨0, rfl, fun _ => ⟨g1, gl, hb, g3, g4, g5.1, g5.2, by omega, fun y hy => ?_, by rw [g7]; decide⟩⟩
         obtain ⟨j, hj, rfl⟩ := List.getElem_of_mem hy
         exact Z7v (h9 j hj (Nat.zero_le _))
        ·rw [if_neg g7]
         cases g8 : digB c.2.2.2.2.2.2 with
         | false => exact ⟨3, rfl, fun h => by cases h⟩
         | true =>
          refine ⟨0, rfl, fun _ => ⟨g1, gl, hb, g3, g4, g5.1, g5.2, by omega, fun y hy => ?_, by rw [Z7v g8]; decide⟩⟩
          obtain ⟨j, hj, rfl⟩ := List.getElem_of_mem hy
          exact Z7v (h9 j hj (Nat.zero_le _))
       ·rw [Za5]
        exact ⟨f, rfl, fun h => absurd h hf⟩
     ·rw [if_neg g5]
      exact ⟨1, rfl, fun h => by cases h⟩
end Go.Proofs.YtahlodpolggeiaaGreatDoor
set_option linter.unusedVariables false
set_option linter.unusedSimpArgs false
namespace Go.Proofs.YtahlodpolggeiaaGreatDoor
open Go Go.Lib Go.Proofs.YtahlodpolggeiaaGreatDoor.Eng
def hstep (h : Int) (c : UInt8) : Int := IntKind.u64.wrap (IntKind.u64.wrap ((BitVec.toNat (BitVec.ofInt (IntKind.bits .u64) h ^^^ BitVec.ofInt (IntKind.bits .u64) (IntKind.u64.wrap ((UInt8.toNat c : Nat) : Int))) : Nat) : Int) * (1099511628211 : Int))
end Go.Proofs.YtahlodpolggeiaaGreatDoor
set_option linter.unusedVariables false
set_option linter.unusedSimpArgs false
namespace Go.Proofs.YtahlodpolggeiaaGreatDoor
open Go Go.Lib Go.Proofs.YtahlodpolggeiaaGreatDoor.Eng
abbrev C0 : Cl := (ByteArray.empty, (ByteArray.empty, (ByteArray.empty, (ByteArray.empty, ((0 : Int), (([] : (List ByteArray)), ByteArray.empty))))))
theorem logStep {l : List Cl} (hs : ∀ c ∈ l, szR c) (x : Int) : Qm.s0 l l (l.length : Int) x = Qv.s0 l l (l.length : Int) x := by
 by_cases h : 0 ≤ x ∧ x < (l.length : Int)
 ·obtain ⟨k, rfl⟩ := Int.eq_ofNat_of_zero_le h.1
  have hk : k < l.length := by omega
  unfold Qm.s0 Qv.s0
  rw [Z12 hk]
  simp only [checkR (hs _ (List.getElem_mem hk))]
 ·unfold Qm.s0 Qv.s0
  rw [Zh1 (by omega), Zh1 (by omega)]
theorem Zbw {l : List Cl} (hs : ∀ c ∈ l, szR c) : Qm.f l = Qv.f l := by
 unfold Qm.f Qv.f
 have e : Qm.l0 l l (l.length : Int) 0 = Qv.l0 l l (l.length : Int) 0 := by
  unfold Qm.l0 Qv.l0
  congr 1
  funext x
  exact logStep hs x
 simp only [e]
theorem logLoop {l : List Cl} (hl : l.length ≤ 1000) (hs : ∀ c ∈ l, szC c) : ∀ (n k : Nat), l.length - k = n → ∃ r, Qm.l0 l l (l.length : Int) (k : Int) = some r ∧ ((r = .inr () ∧ ∀ j : Nat, ∀ h : j < l.length, k ≤ j → Qd.f l[j] = some 0 ∧ l[j].2.2.2.2.2.2 ≠ bs_ ∧ ∀ h' : 0 < j, (l[j - 1]'(by omega)).2.2.2.2.1 ≤ l[j].2.2.2.2.1) ∨ ∃ f : Int, f ≠ 0 ∧ r = .inl f) := by
 intro n
 induction n with
 | zero =>
  intro k hk
  refine ⟨.inr (), Z3 ?_, .inl ⟨rfl, fun j h1 h2 => by omega⟩⟩
  simp only [Qm.s0, Z5]
  rw [if_neg (by omega)]
 | succ n ih =>
  intro k hk
  have hlt : k < l.length := by omega
  obtain ⟨r, h1, h2⟩ := ih (k + 1) (by omega)
  have e : ((k : Int) + 1) = ((k + 1 : Nat) : Int) := by omega
  obtain ⟨f, hf, hf0⟩ := Zj7 (hs _ (List.getElem_mem hlt))
  have step : Qm.s0 l l (l.length : Int) (k : Int) = some (.inr (.inl f)) ∧ f ≠ 0 ∨ Qm.s0 l l (l.length : Int) (k : Int) = some (.inr (.inl 3)) ∨ Qm.s0 l l (l.length : Int) (k : Int) = some (.inr (.inl 8)) ∨ (Qm.s0 l l (l.length : Int) (k : Int) = some (.inl ((k + 1 : Nat) : Int)) ∧ f = 0 ∧ l[k].2.2.2.2.2.2 ≠ bs_ ∧ ∀ h' : 0 < k, (l[k - 1]'(by omega)).2.2.2.2.1 ≤ l[k].2.2.2.2.1) := by
   simp only [Qm.s0, Z5]
   rw [if_pos (by omega), Z1 ⟨by omega, by omega⟩, Z12 hlt, hf, ob_s]
   by_cases h0 : f = 0
   ·rw [decide_eq_true h0]
    simp only [Bool.not_true, cb_f]
    by_cases g : l[k].2.2.2.2.2.2 = bs_
    ·rw [if_pos g]; exact .inr (.inl rfl)
    ·rw [if_neg g]
     by_cases h3 : 0 < k
     ·have e2 : ((k : Int) - 1) = ((k - 1 : Nat) : Int) := by omega
      rw [if_pos (by omega), Zk (by omega) (by omega), Z1 ⟨by omega, by omega⟩, e2, Z12 (show k - 1 < l.length by omega)]
      by_cases h4 : l[k].2.2.2.2.1 < (l[k - 1]'(by omega)).2.2.2.2.1
      ·rw [if_pos h4]; exact .inr (.inr (.inl rfl))
      ·rw [if_neg h4, Zk (by omega) (by omega), e]
       exact .inr (.inr (.inr ⟨rfl, h0, g, fun _ => by omega⟩))
     ·rw [if_neg (by omega), Zk (by omega) (by omega), e]
      exact .inr (.inr (.inr ⟨rfl, h0, g, fun h => absurd h h3⟩))
   ·rw [decide_eq_false h0]
    exact .inl ⟨rfl, h0⟩
  rcases step with ⟨hx, h0⟩ | hx | hx | ⟨hx, h0, hg, h4⟩
  ·exact ⟨.inl f, Z3 hx, .inr ⟨f, h0, rfl⟩⟩
  ·exact ⟨.inl 3, Z3 hx, .inr ⟨3, by decide, rfl⟩⟩
  ·exact ⟨.inl 8, Z3 hx, .inr ⟨8, by decide, rfl⟩⟩
  ·refine ⟨r, (Z4 hx).trans h1, ?_⟩
   rcases h2 with ⟨h2, h5⟩ | h2
   ·refine .inl ⟨h2, fun j hj hkj => ?_⟩
    rcases Nat.eq_or_lt_of_le hkj with rfl | h6
    ·exact ⟨by rw [hf, h0], hg, h4⟩
    ·exact h5 j hj h6
   ·exact .inr h2
structure OkL (l : List Cl) : Prop where
 len : l.length ≤ 1000
 ok : ∀ c ∈ l, Qd.f c = some 0 ∧ OkC c
 sign : ∀ c ∈ l, c.2.2.2.2.2.2 ≠ bs_
 rise : ∀ j : Nat, ∀ h : j < l.length, ∀ h' : 0 < j, (l[j - 1]'(by omega)).2.2.2.2.1 ≤ l[j].2.2.2.2.1
theorem Zij {l : List Cl} (hs : ∀ c ∈ l, szC c) : ∃ f : Int, Qm.f l = some f ∧ (f = 0 → OkL l) := by
 unfold Qm.f
 simp only [Z5]
 by_cases h : 1000 < l.length
 ·rw [if_pos (by omega)]; exact ⟨2, rfl, fun h => by cases h⟩
 ·rw [if_neg (by omega)]
  obtain ⟨r, h1, h2⟩ := logLoop (l := l) (by omega) hs _ 0 rfl
  rw [show ((0 : Nat) : Int) = 0 from rfl] at h1
  rw [h1, ob_s]
  rcases h2 with ⟨rfl, h3⟩ | ⟨f, hf, rfl⟩
  ·refine ⟨0, rfl, fun _ => ⟨by omega, fun c hc => ?_, fun c hc => ?_, fun j hj hj0 => (h3 j hj (Nat.zero_le _)).2.2 hj0⟩⟩
   ·obtain ⟨j, hj, rfl⟩ := List.getElem_of_mem hc
    have h4 := (h3 j hj (Nat.zero_le _)).1
    obtain ⟨f, hf, hf0⟩ := Zj7 (hs _ hc)
    rw [h4] at hf
    exact ⟨h4, hf0 (Option.some.inj hf).symm⟩
   ·obtain ⟨j, hj, rfl⟩ := List.getElem_of_mem hc
    exact (h3 j hj (Nat.zero_le _)).2.1
  ·exact ⟨f, rfl, fun h => absurd h hf⟩
end Go.Proofs.YtahlodpolggeiaaGreatDoor
set_option linter.unusedVariables false
set_option linter.unusedSimpArgs false
namespace Go.Proofs.YtahlodpolggeiaaGreatDoor
open Go Go.Lib Go.Proofs.YtahlodpolggeiaaGreatDoor.Eng
inductive Both (l : List Wr) (c : Cl) : Prop
 | no (f : Int) (hf : f ≠ 0) (h : Q2a.f l c = some f)
 | none (h : Q2a.f l c = some 0) (hc : Qd.f c = some 0) (hk : OkC c) (hl : l.length ≤ 50) (hr : Rising (labs l)) (hn : ∀ k : Nat, ∀ h : k < l.length, l[k].1 ≠ c.2.2.2.1)
 | one (k : Nat) (hkl : k < l.length) (h : Q2a.f l c = some 0) (hc : Qd.f c = some 0) (hk : OkC c) (hl : l.length ≤ 50) (hr : Rising (labs l)) (he : l[k].1 = c.2.2.2.1)
section
variable {l : List Wr} {c : Cl} (hs : ∀ w ∈ l, szW w) (hn : ∀ w ∈ l, w.2.2.1.length ≤ 100000000000)
end
theorem sameC {c : Cl} (h : c.2.2.2.2.2.1.length ≤ 1000000000000) : Q1t.f c c = some true := by
 unfold Q1t.f
 simp only [decide_true, cb_t, Zgr h, ob_s]
theorem copyC {c : Cl} (h : c.2.2.2.2.2.1.length * 16 ≤ 140737488355328) : Q1u.f c = some c := by
 unfold Q1u.f
 rw [cloneS h, ob_s]
theorem copyL {l : List Cl} (hl : l.length ≤ 100000000000) (hn : ∀ c ∈ l, c.2.2.2.2.2.1.length ≤ 1000000000000) : Q1n.f l = some l := by
 have go : ∀ (n k : Nat) (o : List Cl), l.length - k = n → k ≤ l.length → o.length = k → Q1n.l0 l (l.length : Int) (k : Int) o = some (o ++ l.drop k) := by
  intro n
  induction n with
  | zero =>
   intro k o hn hk ho
   rw [List.drop_eq_nil_of_le (by omega), List.append_nil]
   refine Z3 ?_
   simp only [Q1n.s0, Z5]
   rw [if_neg (by omega)]
  | succ n ih =>
   intro k o hn' hk ho
   have hlt : k < l.length := by omega
   have hw := hn _ (List.getElem_mem hlt)
   have h2 := ih (k + 1) (o ++ [l[k]]) (by omega) (by omega) (by simp [ho])
   rw [List.append_assoc, List.singleton_append, ← List.drop_eq_getElem_cons hlt] at h2
   refine (Z4 ?_).trans h2
   simp only [Q1n.s0, Z5, Z12 hlt, copyC (c := l[k]) (by omega), ob_s]
   rw [if_pos (by omega), Z1 (by omega), Z1 (by simp only [List.length_cons, List.length_nil]; omega), Zk (by omega) (by omega)]
   rfl
 unfold Q1n.f
 have h := go l.length 0 [] (by omega) (by omega) rfl
 rw [List.drop_zero, List.nil_append, show ((0 : Nat) : Int) = 0 from rfl] at h
 simp only [h, ob_s]
theorem sameL {l : List Cl} (hl : l.length ≤ 100000000000) (hn : ∀ c ∈ l, c.2.2.2.2.2.1.length ≤ 1000000000000) : Q1m.f l l = some true := by
 have go : ∀ (n k : Nat), l.length - k = n → Q1m.l0 l l (l.length : Int) (k : Int) = some (.inr ()) := by
  intro n
  induction n with
  | zero =>
   intro k hn'
   refine Z3 ?_
   simp only [Q1m.s0, Z5]
   rw [if_neg (by omega)]
  | succ n ih =>
   intro k hn'
   have hlt : k < l.length := by omega
   have hw := hn _ (List.getElem_mem hlt)
   have c0 : 0 ≤ (k : Int) ∧ (k : Int) < (l.length : Int) := by omega
   have c1 : InR ((k : Int) + 1) := ⟨by omega, by omega⟩
   refine (Z4 ?_).trans (ih (k + 1) (by omega))
   simp only [Q1m.s0, Z5, Z12 hlt, Z1 c0, Z1 c1, if_pos c0.2, sameC hw, ob_s, Bool.not_true, cb_f]
   rfl
 have h := go l.length 0 (by omega)
 rw [show ((0 : Nat) : Int) = 0 from rfl] at h
 unfold Q1m.f
 simp only [Z1g, Z5, if_true, h, ob_s, Z3e]
end Go.Proofs.YtahlodpolggeiaaGreatDoor
set_option linter.unusedVariables false
set_option linter.unusedSimpArgs false
namespace Go.Proofs.YtahlodpolggeiaaGreatDoor
open Go Go.Proofs.YtahlodpolggeiaaGreatDoor.Eng
abbrev TyCl : Ty := .pair .str (.pair .str (.pair .str (.pair .str (.pair (.int .i64) (.pair (.slice .str) .str)))))
theorem up_cls {l : List Cl} (h : Up.InD T 6 22 (.slice TyCl) l) : l.length ≤ 100000000000 ∧ (∀ c ∈ l, szR c) ∧ ∀ c ∈ l, c.2.2.2.2.2.1.length ≤ 1000000000000 := by
 have hu : Up.upBytes = 4294967296 := rfl
 have g0 : List.length l * 112 ≤ Up.upBytes := h.1
 have g1 : ∀ c ∈ l, szR c ∧ c.2.2.2.2.2.1.length ≤ 100000000000 := fun c hc => by
  have h := h.2 c hc
  have g1 : c.2.1.size ≤ Up.upBytes := h.2.1
  have g2 : List.length c.2.2.2.2.2.1 * 16 ≤ Up.upBytes := h.2.2.2.2.2.1.1
  exact ⟨Nat.le_trans g1 (by rw [hu]; decide), by omega⟩
 exact ⟨by omega, fun c hc => (g1 c hc).1, fun c hc => Nat.le_trans (g1 c hc).2 (by decide)⟩
end Go.Proofs.YtahlodpolggeiaaGreatDoor
set_option linter.unusedVariables false
set_option linter.unusedSimpArgs false
namespace Go.Proofs.YtahlodpolggeiaaGreatDoor
open Go Go.Lib Go.Proofs.YtahlodpolggeiaaGreatDoor.Eng
abbrev Au : Type := Int × (ByteArray × Int)
def hx (d : Nat) : UInt8 := bt hexCs (d : Int)
theorem b16 : ((UInt8.toNat (UInt8.ofInt (IntKind.u8.wrap (16 : Int))) : Nat) : Int) = 16 := by decide
end Go.Proofs.YtahlodpolggeiaaGreatDoor
set_option linter.unusedVariables false
set_option linter.unusedSimpArgs false
namespace Go.Proofs.YtahlodpolggeiaaGreatDoor
open Go Go.Lib Go.Proofs.YtahlodpolggeiaaGreatDoor.Eng
structure OkA (l : List Cl) (m : List Au) : Prop where
 log : OkL l
 len : m.length ≤ 1000
 num : ∀ a ∈ m, 0 ≤ a.1 ∧ a.1 < (l.length : Int)
theorem audLoop {l : List Cl} (hl : l.length ≤ 1000) {m : List Au} (hm : m.length ≤ 1000) : ∀ (n k : Nat), m.length - k = n → ∃ r, Qe.l0 l m m (m.length : Int) (k : Int) = some r ∧ ((r = .inr () ∧ ∀ j : Nat, ∀ h : j < m.length, k ≤ j → 0 ≤ m[j].1 ∧ m[j].1 < (l.length : Int)) ∨ ∃ f : Int, f ≠ 0 ∧ r = .inl f) := by
 intro n
 induction n with
 | zero =>
  intro k hk
  refine ⟨.inr (), Z3 ?_, .inl ⟨rfl, fun j hj h => by omega⟩⟩
  simp only [Qe.s0, Z5]
  rw [if_neg (by omega)]
 | succ n ih =>
  intro k hk
  have hlt : k < m.length := by omega
  have e : ((k : Int) + 1) = ((k + 1 : Nat) : Int) := by omega
  obtain ⟨r, h1, h2⟩ := ih (k + 1) (by omega)
  have key : ∀ res, Qe.s0 l m m (m.length : Int) (k : Int) = some res → (∃ f : Int, f ≠ 0 ∧ res = .inr (.inl f)) ∨ (res = .inl ((k + 1 : Nat) : Int) ∧ 0 ≤ m[k].1 ∧ m[k].1 < (l.length : Int)) → ∃ r, Qe.l0 l m m (m.length : Int) (k : Int) = some r ∧ ((r = .inr () ∧ ∀ j : Nat, ∀ h : j < m.length, k ≤ j → 0 ≤ m[j].1 ∧ m[j].1 < (l.length : Int)) ∨ ∃ f : Int, f ≠ 0 ∧ r = .inl f) := by
   intro res hs hr
   rcases hr with ⟨f, h0, rfl⟩ | ⟨rfl, h3, h4⟩
   ·exact ⟨.inl f, Z3 hs, .inr ⟨f, h0, rfl⟩⟩
   ·refine ⟨r, (Z4 hs).trans h1, ?_⟩
    rcases h2 with ⟨h2, h5⟩ | h2
    ·refine .inl ⟨h2, fun j hj hkj => ?_⟩
     rcases Nat.eq_or_lt_of_le hkj with rfl | h6
     ·exact ⟨h3, h4⟩
     ·exact h5 j hj h6
    ·exact .inr h2
  have hs : ∃ res, Qe.s0 l m m (m.length : Int) (k : Int) = some res ∧ ((∃ f : Int, f ≠ 0 ∧ res = .inr (.inl f)) ∨ (res = .inl ((k + 1 : Nat) : Int) ∧ 0 ≤ m[k].1 ∧ m[k].1 < (l.length : Int))) := by
   unfold Qe.s0
   rw [decide_eq_true (by omega), cb_t, Z1 ⟨by omega, by omega⟩, Z12 hlt]
   simp only [Z4r, Z3a, ob_s]
   rw [Zk (by omega) (by omega)]
   by_cases hn : 0 ≤ m[k].1 ∧ m[k].1 ≤ (l.length : Int) - 1
   ·rw [decide_eq_true hn]
    simp only [Bool.not_true, cb_f]
    cases hd : digB m[k].2.1 with
    | false => exact ⟨_, rfl, .inl ⟨3, by decide, rfl⟩⟩
    | true =>
     simp only [Bool.not_true, cb_f]
     rw [Z1 ⟨hn.1, by omega⟩]
     by_cases ha : (rd C0 l m[k].1).2.2.2.2.1 ≤ m[k].2.2 ∧ m[k].2.2 ≤ 1000000000
     ·rw [decide_eq_true ha]
      simp only [Bool.not_true, cb_f, Z5]
      by_cases h0 : 0 < k
      ·have e1 : (k : Int) - 1 = ((k - 1 : Nat) : Int) := by omega
       rw [if_pos (by omega), Zk (by omega) (by omega), e1, Z1 ⟨by omega, by omega⟩, Zk (by omega) (by omega), e]
       split
       ·exact ⟨_, rfl, .inl ⟨8, by decide, rfl⟩⟩
       ·exact ⟨_, rfl, .inr ⟨rfl, hn.1, by omega⟩⟩
      ·rw [if_neg (by omega), Zk (by omega) (by omega), e]
       exact ⟨_, rfl, .inr ⟨rfl, hn.1, by omega⟩⟩
     ·rw [decide_eq_false ha]
      exact ⟨_, rfl, .inl ⟨1, by decide, rfl⟩⟩
   ·rw [decide_eq_false hn]
    exact ⟨_, rfl, .inl ⟨9, by decide, rfl⟩⟩
  obtain ⟨res, hs, hr⟩ := hs
  exact key res hs hr
theorem Zik {l : List Cl} (hs : ∀ c ∈ l, szC c) (m : List Au) : ∃ f : Int, Qe.f l m = some f ∧ (f = 0 → OkA l m) := by
 obtain ⟨f, h1, h2⟩ := Zij hs
 unfold Qe.f
 rw [h1, ob_s]
 by_cases hf : f = 0
 ·rw [decide_eq_true hf]
  simp only [Bool.not_true, cb_f, Z5]
  have hk := h2 hf
  by_cases h : 1000 < m.length
  ·rw [if_pos (by omega)]; exact ⟨2, rfl, fun h => by cases h⟩
  ·rw [if_neg (by omega)]
   obtain ⟨r, h3, h4⟩ := audLoop hk.len (m := m) (by omega) _ 0 rfl
   rw [show ((0 : Nat) : Int) = 0 from rfl] at h3
   rw [h3, ob_s]
   rcases h4 with ⟨rfl, h5⟩ | ⟨f', hf', rfl⟩
   ·refine ⟨0, rfl, fun _ => ⟨hk, by omega, fun a ha => ?_⟩⟩
    obtain ⟨j, hj, rfl⟩ := List.getElem_of_mem ha
    exact h5 j hj (Nat.zero_le _)
   ·exact ⟨f', rfl, fun h => absurd h hf'⟩
 ·rw [decide_eq_false hf]
  exact ⟨f, rfl, fun h => absurd h hf⟩
noncomputable def same (l : List Cl) (x : Au) : Bool := decide (x.2.1 = (rd C0 l x.1).2.2.1)
abbrev Fc : Type := List Bool × (List Bool × List (ByteArray × Bool))
noncomputable def fcs (l : List Cl) : List Au → Fc → Fc
 | [], t => t
 | x :: r, t => fcs l r (t.1.set x.1.toNat true, (match same l x with | true => t.2.1 | false => t.2.1.set x.1.toNat true), (match same l x with | true => t.2.2 | false => mset (rd C0 l x.1).2.2.2.1 true t.2.2))
theorem fcLoop {l : List Cl} {m : List Au} (hm : m.length ≤ 1000) (hn : ∀ a ∈ m, 0 ≤ a.1 ∧ a.1 < (l.length : Int)) : ∀ (n k : Nat) (a w : List Bool) (s : List (ByteArray × Bool)), m.length - k = n → a.length = l.length → w.length = l.length → Qk.l0 l m (m.length : Int) (k : Int) [] [] [] a w s = some ([], [], [], fcs l (m.drop k) (a, w, s)) := by
 intro n
 induction n with
 | zero =>
  intro k a w s hk ha hw
  refine Z3 ?_
  simp only [Qk.s0, Z5]
  rw [if_neg (by omega), List.drop_eq_nil_of_le (by omega)]
  rfl
 | succ n ih =>
  intro k a w s hk ha hw
  have hlt : k < m.length := by omega
  obtain ⟨h1, h2⟩ := hn _ (List.getElem_mem hlt)
  have e : ((k : Int) + 1) = ((k + 1 : Nat) : Int) := by omega
  rw [List.drop_eq_getElem_cons hlt]
  unfold fcs
  cases hq : same l m[k] with
  | true =>
   have hq' : m[k].2.1 = (rd C0 l m[k].1).2.2.1 := of_decide_eq_true hq
   refine (Z4 (x' := (((k + 1 : Nat) : Int), [], [], [], a.set m[k].1.toNat true, w, s)) ?_).trans (ih (k + 1) _ _ _ (by omega) (by simp [ha]) hw)
   simp only [Qk.s0]
   rw [decide_eq_true (by omega), cb_t, Z1 ⟨by omega, by omega⟩, Z12 hlt]
   rw [Z1 ⟨h1, by omega⟩, Z1 (by omega), Z1 ⟨h1, h2⟩, decide_eq_true hq']
   simp only [Bool.not_true, cb_f]
   rw [Zk (by omega) (by omega), e]
  | false =>
   have hq' : ¬ m[k].2.1 = (rd C0 l m[k].1).2.2.1 := of_decide_eq_false hq
   refine (Z4 (x' := (((k + 1 : Nat) : Int), [], [], [], a.set m[k].1.toNat true, w.set m[k].1.toNat true, mset (rd C0 l m[k].1).2.2.2.1 true s)) ?_).trans (ih (k + 1) _ _ _ (by omega) (by simp [ha]) (by simp [hw]))
   simp only [Qk.s0]
   rw [decide_eq_true (by omega), cb_t, Z1 ⟨by omega, by omega⟩, Z12 hlt]
   rw [Z1 ⟨h1, by omega⟩, Z1 (by omega), Z1 ⟨h1, h2⟩, decide_eq_false hq']
   simp only [Bool.not_false, cb_t]
   rw [Z1 ⟨h1, by omega⟩, Z1 (by omega), Z1 ⟨h1, h2⟩, Zk (by omega) (by omega), e]
theorem Z9y {l : List Cl} {m : List Au} (hA : OkA l m) : Qk.f l m = some (fcs l m (List.replicate l.length false, List.replicate l.length false, [])) := by
 have hl := hA.log.len
 have hck : ∀ a : Option Fc, ck (0 ≤ ((List.length l : Nat) : Int) ∧ ((List.length l : Nat) : Int) * (1 : Int) ≤ 140737488355328) a = a := fun a => Z1 ⟨by omega, by omega⟩
 have h := fcLoop (l := l) hA.len hA.num _ 0 (List.replicate l.length false) (List.replicate l.length false) [] rfl (by simp) (by simp)
 rw [show ((0 : Nat) : Int) = 0 from rfl, List.drop_zero] at h
 unfold Qk.f
 simp only [mix_eq, hck, Int.toNat_natCast, h, ob_s, Z81]
theorem Zgl (l : List Cl) : ∀ (m : List Au) (t : Fc), (fcs l m t).1.length = t.1.length ∧ (fcs l m t).2.1.length = t.2.1.length
 | [], t => ⟨rfl, rfl⟩
 | x :: r, t => by
  unfold fcs
  have h := Zgl l r (t.1.set x.1.toNat true, (match same l x with | true => t.2.1 | false => t.2.1.set x.1.toNat true), (match same l x with | true => t.2.2 | false => mset (rd C0 l x.1).2.2.2.1 true t.2.2))
  refine ⟨h.1.trans (by simp), h.2.trans ?_⟩
  cases same l x <;> simp
def nums (k : Nat) : List Bool → List Int
 | [] => []
 | b :: r => match b with | true => (k : Int) :: nums (k + 1) r | false => nums (k + 1) r
theorem nums_len : ∀ (l : List Bool) (k : Nat), (nums k l).length ≤ l.length
 | [], _ => Nat.le_refl _
 | b :: r, k => by
  have := nums_len r (k + 1)
  cases b <;> simp [nums] <;> omega
theorem numLoop {l : List Bool} (hl : l.length ≤ 1000) : ∀ (n k : Nat) (out : List Int), l.length - k = n → out.length ≤ k → Qy.l0 l (l.length : Int) (k : Int) out = some (out ++ nums k (l.drop k)) := by
 intro n
 induction n with
 | zero =>
  intro k out hk ho
  refine Z3 ?_
  simp only [Qy.s0, Z5]
  rw [if_neg (by omega), List.drop_eq_nil_of_le (by omega)]
  simp [nums]
 | succ n ih =>
  intro k out hk ho
  have hlt : k < l.length := by omega
  have e : ((k : Int) + 1) = ((k + 1 : Nat) : Int) := by omega
  rw [List.drop_eq_getElem_cons hlt]
  cases hb : l[k] with
  | true =>
   have h1 := ih (k + 1) (out ++ [(k : Int)]) (by omega) (by simp; omega)
   refine (Z4 (x' := (((k + 1 : Nat) : Int), out ++ [(k : Int)])) ?_).trans (h1.trans (by simp [nums]))
   simp only [Qy.s0]
   rw [decide_eq_true (by omega), cb_t, Z1 ⟨by omega, by omega⟩, Z12 hlt, hb, cb_t, Z1 (by simp; omega), Zk (by omega) (by omega), e]
  | false =>
   have h1 := ih (k + 1) out (by omega) (by omega)
   refine (Z4 (x' := (((k + 1 : Nat) : Int), out)) ?_).trans (h1.trans (by simp [nums]))
   simp only [Qy.s0]
   rw [decide_eq_true (by omega), cb_t, Z1 ⟨by omega, by omega⟩, Z12 hlt, hb, cb_f, Zk (by omega) (by omega), e]
theorem Z8r {l : List Bool} (hl : l.length ≤ 1000) : Qy.f l = some (nums 0 l) := by
 have h := numLoop hl _ 0 [] rfl (by simp)
 rw [show ((0 : Nat) : Int) = 0 from rfl] at h
 unfold Qy.f
 simp only [h, ob_s, List.drop_zero, List.nil_append]
end Go.Proofs.YtahlodpolggeiaaGreatDoor
set_option linter.unusedVariables false
set_option linter.unusedSimpArgs false
namespace Go.Proofs.YtahlodpolggeiaaGreatDoor
open Go Go.Lib Go.Proofs.YtahlodpolggeiaaGreatDoor.Eng
theorem audRef {l : List Cl} (hs : ∀ c ∈ l, szR c) (m : List Au) : Qe.f l m = Qj.f l m := by
 unfold Qe.f Qj.f
 rw [Zbw hs]
 rfl
theorem Zdb {w : List Bool} {i : Nat} {b : Bool} (h : i < w.length) (hb : w[i] = b) : w.set i b = w := by
 subst hb
 exact List.set_getElem_self h
theorem Z9x (l : List Cl) (x : Au) (r : List Au) (t : Fc) : fcs l (x :: r) t = fcs l r (t.1.set x.1.toNat true, (match same l x with | true => t.2.1 | false => t.2.1.set x.1.toNat true), (match same l x with | true => t.2.2 | false => mset (rd C0 l x.1).2.2.2.1 true t.2.2)) := rfl
theorem stLoop0 {l : List Cl} {m : List Au} (hm : m.length ≤ 1000) (hn : ∀ a ∈ m, 0 ≤ a.1 ∧ a.1 < (l.length : Int)) (t : List Bool) (s : List (ByteArray × Bool)) : ∀ (n k : Nat) (a w : List Bool) (s : List (ByteArray × Bool)), m.length - k = n → a.length = l.length → w.length = l.length → Q1.l0 l m (m.length : Int) (k : Int) a w t = some ((fcs l (m.drop k) (a, w, s)).1, (fcs l (m.drop k) (a, w, s)).2.1, t) := by
 intro n
 induction n with
 | zero =>
  intro k a w s hk ha hw
  refine Z3 ?_
  simp only [Q1.s0, Z5]
  rw [if_neg (by omega), List.drop_eq_nil_of_le (by omega)]
  rfl
 | succ n ih =>
  intro k a w s hk ha hw
  have hlt : k < m.length := by omega
  obtain ⟨h1, h2⟩ := hn _ (List.getElem_mem hlt)
  have e : ((k : Int) + 1) = ((k + 1 : Nat) : Int) := by omega
  have hi : m[k].1.toNat < w.length := by omega
  rw [List.drop_eq_getElem_cons hlt, Z9x]
  have hw' : (match same l m[k] with | true => w | false => w.set m[k].1.toNat true).length = l.length := by cases same l m[k] <;> simp [hw]
  have step : Q1.s0 l m (m.length : Int) (k : Int) a w t = some (.inl (((k + 1 : Nat) : Int), a.set m[k].1.toNat true, (match same l m[k] with | true => w | false => w.set m[k].1.toNat true), t)) := by
   simp only [Q1.s0]
   rw [decide_eq_true (by omega), cb_t, Z1 ⟨by omega, by omega⟩, Z12 hlt, Z1 ⟨h1, by omega⟩, Z1 (by omega), Z1 ⟨h1, by omega⟩, Z1 hi]
   have hg : List.getD w m[k].1.toNat false = w[m[k].1.toNat] := by simp [List.getD, List.getElem?_eq_getElem hi]
   rw [hg]
   cases hb : w[m[k].1.toNat] with
   | true =>
    rw [cb_t, Z1 ⟨h1, by omega⟩, Z1 hi, Zk (by omega) (by omega), e, Zdb hi hb]
    cases same l m[k] <;> rfl
   | false =>
    rw [cb_f, Z1 ⟨h1, h2⟩, Z1 ⟨h1, by omega⟩, Z1 hi, Zk (by omega) (by omega), e]
    cases hq : same l m[k] with
    | true =>
     have hq' : m[k].2.1 = (rd C0 l m[k].1).2.2.1 := of_decide_eq_true hq
     rw [decide_eq_true hq']
     simp only [Bool.not_true]
     rw [Zdb hi hb]
    | false =>
     have hq' : ¬ m[k].2.1 = (rd C0 l m[k].1).2.2.1 := of_decide_eq_false hq
     rw [decide_eq_false hq']
     rfl
  refine (Z4 step).trans ((ih (k + 1) _ _ (match same l m[k] with | true => s | false => mset (rd C0 l m[k].1).2.2.2.1 true s) (by omega) (by simp [ha]) hw').trans ?_)
  rfl
def wrs : List Cl → List Bool → List ByteArray
 | c :: r, b :: q => match b with | true => c.2.2.2.1 :: wrs r q | false => wrs r q
 | _, _ => []
theorem stLoop1 {l : List Cl} (hl : l.length ≤ 1000) {a w t : List Bool} (hw : w.length = l.length) (o5 : List ByteArray) : ∀ (n k : Nat) (o : List ByteArray), l.length - k = n → o.length ≤ k → Q1.l1 l (l.length : Int) (k : Int) a w t o5 o = some (a, w, t, o5, o ++ wrs (l.drop k) (w.drop k)) := by
 intro n
 induction n with
 | zero =>
  intro k o hk ho
  refine Z3 ?_
  simp only [Q1.s1, Z5]
  rw [if_neg (by omega), List.drop_eq_nil_of_le (by omega)]
  simp [wrs]
 | succ n ih =>
  intro k o hk ho
  have hlt : k < l.length := by omega
  have hltw : k < w.length := by omega
  have e : ((k : Int) + 1) = ((k + 1 : Nat) : Int) := by omega
  have hg : List.getD w k false = w[k] := by simp [List.getD, List.getElem?_eq_getElem hltw]
  rw [List.drop_eq_getElem_cons hlt, List.drop_eq_getElem_cons hltw]
  cases hb : w[k] with
  | true =>
   refine (Z4 (x' := (((k + 1 : Nat) : Int), a, w, t, o5, o ++ [l[k].2.2.2.1])) ?_).trans ((ih (k + 1) _ (by omega) (by simp; omega)).trans (by simp [wrs]))
   simp only [Q1.s1]
   rw [decide_eq_true (by omega), cb_t, Z1 ⟨by omega, by omega⟩, Z12 hlt, Z1 ⟨by omega, by omega⟩, Int.toNat_natCast, Z1 hltw, hg, hb, cb_t, Z1 (by simp; omega), Zk (by omega) (by omega), e]
  | false =>
   refine (Z4 (x' := (((k + 1 : Nat) : Int), a, w, t, o5, o)) ?_).trans ((ih (k + 1) _ (by omega) (by omega)).trans (by simp [wrs]))
   simp only [Q1.s1]
   rw [decide_eq_true (by omega), cb_t, Z1 ⟨by omega, by omega⟩, Z12 hlt, Z1 ⟨by omega, by omega⟩, Int.toNat_natCast, Z1 hltw, hg, hb, cb_f, Zk (by omega) (by omega), e]
abbrev Sta : Type := List Bool × (List Bool × (List Bool × List ByteArray))
theorem dbLoop1 {l : List Cl} (hl : l.length ≤ 1000) {S : Sta} (hS1 : S.1.length = l.length) (hS : S.2.1.length = l.length) {i : Nat} (hi : i < l.length) {r : Int} (hr : r < (l.length : Int)) : ∀ (n k : Nat) (x : Int), l.length - k = n → ∃ q : Int, Q5.l1 l (i : Int) S r x (k : Int) = some q := by
 intro n
 induction n with
 | zero =>
  intro k x hk
  refine ⟨x, Z3 ?_⟩
  simp only [Q5.s1, Z5]
  rw [if_neg (by omega)]
 | succ n ih =>
  intro k x hk
  by_cases hkr : (k : Int) < r
  ·have hlt : k < l.length := by omega
   have e : ((k : Int) + 1) = ((k + 1 : Nat) : Int) := by omega
   have key : ∃ y : Int, Q5.s1 l (i : Int) S r x (k : Int) = some (.inl (y, ((k + 1 : Nat) : Int))) := by
    simp only [Q5.s1]
    rw [decide_eq_true hkr, cb_t, Z1 ⟨by omega, by omega⟩, Z1 ⟨by omega, by omega⟩, Z1 ⟨by omega, by omega⟩, Z1 ⟨by omega, by omega⟩, Zk (by omega) (by omega), Zk (by omega) (by omega), e, Z5]
    split
    ·cases rd false S.1 (k : Int)
     ·exact ⟨x, rfl⟩
     ·cases rd false S.2.1 (k : Int)
      ·exact ⟨(k : Int), rfl⟩
      ·exact ⟨x, rfl⟩
    ·exact ⟨x, rfl⟩
   obtain ⟨y, h⟩ := key
   obtain ⟨q, hq⟩ := ih (k + 1) y (by omega)
   exact ⟨q, (Z4 h).trans hq⟩
  ·refine ⟨x, Z3 ?_⟩
   simp only [Q5.s1, Z5]
   rw [if_neg hkr]
theorem wrs_len : ∀ (l : List Cl) (w : List Bool), (wrs l w).length ≤ l.length
 | [], _ => by simp [wrs]
 | c :: r, [] => by simp [wrs]
 | c :: r, b :: q => by
  have := wrs_len r q
  cases b <;> simp [wrs] <;> omega
theorem run47 {xs : List ByteArray} (h : xs.length ≤ 1000000000) : Z0 xs = some (Zx xs) := Z1 h
theorem run48 {xs : List ByteArray} (h : xs.length ≤ 1000000000) : Z2 xs = some (Zs xs ++ List.replicate (xs.length - (Zs xs).length) (ByteArray.empty)) := Z1 h
theorem Z2t (xs : List ByteArray) : (Zx xs).length = xs.length := by simp [Zx]
end Go.Proofs.YtahlodpolggeiaaGreatDoor
set_option linter.unusedVariables false
namespace Go.Proofs.YtahlodpolggeiaaGreatDoor
open Go Go.Lib Go.Proofs.YtahlodpolggeiaaGreatDoor.Eng
theorem Z3n {α : Type} [Inhabited α] [DecidableEq α] (d : Array α) (x : α) : ∀ m : Nat, x ∈ Lib.compactUpTo d m ↔ ∃ j, j < m ∧ d[j]! = x
 | 0 => by simp [Lib.compactUpTo]
 | m + 1 => by
  rw [Lib.compactUpTo_succ, List.mem_append, Z3n d x m]
  cases hk : Lib.keeps d m with
  | true =>
   simp only [if_true, List.mem_singleton]
   constructor
   ·rintro (⟨j, h1, h2⟩ | h)
    ·exact ⟨j, by omega, h2⟩
    ·exact ⟨m, by omega, h.symm⟩
   ·rintro ⟨j, h1, h2⟩
    rcases Nat.lt_or_ge j m with h | h
    ·exact .inl ⟨j, h, h2⟩
    ·obtain rfl : j = m := by omega
     exact .inr h2.symm
  | false =>
   simp only [Bool.false_eq_true, if_false, List.not_mem_nil, or_false]
   have hk' := of_decide_eq_false (show decide (m = 0 ∨ d[m]! ≠ d[m - 1]!) = false from hk)
   have h0 : m ≠ 0 := fun e => hk' (.inl e)
   have h1 : d[m]! = d[m - 1]! := Classical.byContradiction fun e => hk' (.inr e)
   constructor
   ·rintro ⟨j, h2, h3⟩; exact ⟨j, by omega, h3⟩
   ·rintro ⟨j, h2, h3⟩
    rcases Nat.lt_or_ge j m with h | h
    ·exact ⟨j, h, h3⟩
    ·obtain rfl : j = m := by omega
     exact ⟨j - 1, by omega, by rw [← h1]; exact h3⟩
theorem Z7l {α : Type} [Inhabited α] [DecidableEq α] (l : List α) (x : α) : x ∈ Lib.compact l ↔ x ∈ l := by
 unfold Lib.compact
 rw [Z3n]
 constructor
 ·rintro ⟨j, h1, h2⟩
  rw [← h2, getElem!_pos _ j (by simpa using h1)]
  simp
 ·intro h
  obtain ⟨j, h1, h2⟩ := List.getElem_of_mem h
  exact ⟨j, h1, by rw [getElem!_pos _ j (by simpa using h1)]; simpa using h2⟩
theorem Z9k (xs : List ByteArray) (x : ByteArray) : x ∈ Zs (Zx xs) ↔ x ∈ xs := by
 have e : (Zx xs).map toL = (xs.map toL).mergeSort fun x y => decide (x ≤ y) := by
  unfold Zx
  rw [List.map_map]
  exact (List.map_congr_left fun l _ => Z9a l).trans (List.map_id _)
 unfold Zs
 rw [List.mem_map]
 constructor
 ·rintro ⟨l, h1, rfl⟩
  rw [Z7l, e, List.mem_mergeSort, List.mem_map] at h1
  obtain ⟨b, hb, rfl⟩ := h1
  rw [Zcp]; exact hb
 ·intro h
  exact ⟨toL x, by rw [Z7l, e, List.mem_mergeSort]; exact List.mem_map_of_mem h, Zcp x⟩
theorem Z7k {α : Type} (x y : ByteArray) (v : α) : ∀ es : List (ByteArray × α), Zz x (Z1q y v es) = if x = y then some v else Zz x es
 | [] => by
  unfold Z1q Zz
  by_cases h : x = y
  ·rw [if_pos h, decide_eq_true h]
  ·rw [if_neg h, decide_eq_false h]; rfl
 | p :: r => by
  have ih := Z7k x y v r
  unfold Z1q
  by_cases hp : y = p.1
  ·rw [decide_eq_true hp]
   show Zz x ((y, v) :: r) = _
   by_cases h : x = y
   ·rw [if_pos h]; unfold Zz; rw [decide_eq_true h]
   ·rw [if_neg h]
    have h2 : ¬ x = p.1 := fun e => h (e.trans hp.symm)
    unfold Zz
    rw [decide_eq_false h, decide_eq_false h2]
  ·rw [decide_eq_false hp]
   cases klt y p.1 with
   | true =>
    show Zz x ((y, v) :: p :: r) = _
    by_cases h : x = y
    ·rw [if_pos h]; unfold Zz; rw [decide_eq_true h]
    ·rw [if_neg h]
     show Zz x ((y, v) :: p :: r) = Zz x (p :: r)
     conv => lhs; unfold Zz
     rw [decide_eq_false h]
   | false =>
    show Zz x (p :: Z1q y v r) = _
    by_cases h2 : x = p.1
    ·have h : ¬ x = y := fun e => hp (e.symm.trans h2)
     rw [if_neg h]
     unfold Zz
     rw [decide_eq_true h2]
    ·have e1 : Zz x (p :: Z1q y v r) = Zz x (Z1q y v r) := by
      conv => lhs; unfold Zz
      rw [decide_eq_false h2]
     have e2 : Zz x (p :: r) = Zz x r := by
      conv => lhs; unfold Zz
      rw [decide_eq_false h2]
     rw [e1, e2, ih]
end Go.Proofs.YtahlodpolggeiaaGreatDoor
set_option linter.unusedVariables false
set_option linter.unusedSimpArgs false
namespace Go.Proofs.YtahlodpolggeiaaGreatDoor
open Go Go.Lib Go.Proofs.YtahlodpolggeiaaGreatDoor.Eng
theorem Zfv (x : ByteArray) : ∀ (l : List Cl) (w : List Bool), x ∈ wrs l w ↔ ∃ i, ∃ h : i < l.length, w[i]? = some true ∧ l[i].2.2.2.1 = x
 | [], w => by simp [wrs]
 | c :: r, [] => by simp [wrs]
 | c :: r, b :: q => by
  have ih := Zfv x r q
  have shift : (∃ i, ∃ h : i < (c :: r).length, (b :: q)[i]? = some true ∧ (c :: r)[i].2.2.2.1 = x) ↔ (b = true ∧ c.2.2.2.1 = x) ∨ ∃ i, ∃ h : i < r.length, q[i]? = some true ∧ r[i].2.2.2.1 = x := by
   constructor
   ·rintro ⟨i, h, h1, h2⟩
    cases i with
    | zero => exact .inl ⟨by simpa using h1, h2⟩
    | succ i => exact .inr ⟨i, by simpa using h, by simpa using h1, by simpa using h2⟩
   ·rintro (⟨h1, h2⟩ | ⟨i, h, h1, h2⟩)
    ·exact ⟨0, by simp, by simp [h1], h2⟩
    ·exact ⟨i + 1, by simpa using h, by simpa using h1, by simpa using h2⟩
  rw [shift]
  cases b with
  | true =>
   show x ∈ c.2.2.2.1 :: wrs r q ↔ _
   rw [List.mem_cons, ih]
   constructor
   ·rintro (h | h)
    ·exact .inl ⟨rfl, h.symm⟩
    ·exact .inr h
   ·rintro (⟨_, h⟩ | h)
    ·exact .inl h.symm
    ·exact .inr h
  | false =>
   show x ∈ wrs r q ↔ _
   rw [ih]
   constructor
   ·exact .inr
   ·rintro (⟨h, _⟩ | h)
    ·cases h
    ·exact h
def SusW (l : List Cl) (t : Fc) : Prop := ∀ x, Option.getD (mget x t.2.2) false = true ↔ ∃ i, ∃ h : i < l.length, t.2.1[i]? = some true ∧ l[i].2.2.2.1 = x
theorem Zgk {l : List Cl} : ∀ (m : List Au) (t : Fc), (∀ a ∈ m, 0 ≤ a.1 ∧ a.1 < (l.length : Int)) → t.2.1.length = l.length → SusW l t → SusW l (fcs l m t)
 | [], t, _, _, h => h
 | a :: r, t, hn, ht, h => by
  rw [Z9x]
  obtain ⟨h1, h2⟩ := hn a (List.mem_cons_self ..)
  refine Zgk r _ (fun b hb => hn b (List.mem_cons_of_mem _ hb)) ?_ ?_
  ·cases same l a <;> simp [ht]
  ·cases hs : same l a with
   | true => exact h
   | false =>
    intro x
    have hlt : a.1.toNat < l.length := by omega
    have e : rd C0 l a.1 = l[a.1.toNat] := by simp [rd, List.getD, List.getElem?_eq_getElem hlt]
    show Option.getD (Zz x (Z1q (rd C0 l a.1).2.2.2.1 true t.2.2)) false = true ↔ _
    rw [Z7k, e]
    have hx := h x
    by_cases hw : x = l[a.1.toNat].2.2.2.1
    ·rw [if_pos hw]
     refine ⟨fun _ => ⟨a.1.toNat, hlt, ?_, hw.symm⟩, fun _ => rfl⟩
     show (t.2.1.set a.1.toNat true)[a.1.toNat]? = _
     rw [List.getElem?_set_self (by omega)]
    ·rw [if_neg hw]
     refine hx.trans ⟨?_, ?_⟩
     ·rintro ⟨i, hi, h3, h4⟩
      refine ⟨i, hi, ?_, h4⟩
      show (t.2.1.set a.1.toNat true)[i]? = _
      rw [List.getElem?_set]
      split
      ·rw [if_pos (by omega)]
      ·exact h3
     ·rintro ⟨i, hi, h3, h4⟩
      have h3 : (t.2.1.set a.1.toNat true)[i]? = some true := h3
      have hne : ¬ a.1.toNat = i := fun e' => by subst e'; exact hw h4.symm
      rw [List.getElem?_set_ne hne] at h3
      exact ⟨i, hi, h3, h4⟩
end Go.Proofs.YtahlodpolggeiaaGreatDoor
set_option linter.unusedVariables false
set_option linter.unusedSimpArgs false
namespace Go.Proofs.YtahlodpolggeiaaGreatDoor
open Go Go.Lib Go.Proofs.YtahlodpolggeiaaGreatDoor.Eng
theorem Z5j (xs : List ByteArray) : (Zs xs).length ≤ xs.length := by
 have hle : (Lib.compact (xs.map toL)).length ≤ xs.length := by
  unfold Lib.compact Lib.compactUpTo
  rw [List.length_map]
  exact Nat.le_trans (List.length_filter_le _ _) (by simp)
 unfold Zs
 rw [List.length_map]
 exact hle
theorem Zcq (w : List Bool) : Q1e.f w = Qy.f w := rfl
theorem Zj0 {l : List Int} (hl : l.length ≤ 1000000000000) : Qg.f l l = some true := by
 have go : ∀ (n k : Nat), l.length - k = n → Qg.l0 l l (l.length : Int) (k : Int) = some (.inr ()) := by
  intro n
  induction n with
  | zero =>
   intro k hn
   refine Z3 ?_
   simp only [Qg.s0, Z5]
   rw [if_neg (by omega)]
  | succ n ih =>
   intro k hn
   have hlt : k < l.length := by omega
   refine (Z4 ?_).trans (ih (k + 1) (by omega))
   simp only [Qg.s0, Z5, Z12 hlt, Z1g, if_true]
   rw [if_pos (by omega), Z1 (by omega), Z1 (by omega), Zk (by omega) (by omega)]
   rfl
 have h := go l.length 0 (by omega)
 rw [show ((0 : Nat) : Int) = 0 from rfl] at h
 unfold Qg.f
 simp only [Z1g, Z5, if_true, h, ob_s, Z3e]
theorem Zdp (x : ByteArray) : eqS x x = true := by
 cases x with
 | mk d =>
  show (d == d) = true
  simp
theorem Zj1 {l : List Au} (hl : l.length ≤ 1000000000000) : Q6.f l l = some true := by
 have go : ∀ (n k : Nat), l.length - k = n → Q6.l0 l l (l.length : Int) (k : Int) = some (.inr ()) := by
  intro n
  induction n with
  | zero =>
   intro k hn
   refine Z3 ?_
   simp only [Q6.s0, Z5]
   rw [if_neg (by omega)]
  | succ n ih =>
   intro k hn
   have hlt : k < l.length := by omega
   have e1 : ∀ x : Int, eqI x x = true := fun x => by simp [eqI]
   have e2 : ∀ x : ByteArray, eqS x x = true := Zdp
   refine (Z4 ?_).trans (ih (k + 1) (by omega))
   simp only [Q6.s0, Z5, Z12 hlt, e1, e2, Bool.and_true, Bool.not_true, cb_f]
   rw [if_pos (by omega), Z1 (by omega), Z1 (by omega), Zk (by omega) (by omega)]
   rfl
 have h := go l.length 0 (by omega)
 rw [show ((0 : Nat) : Int) = 0 from rfl] at h
 unfold Q6.f
 simp only [Z1g, Z5, if_true, h, ob_s, Z3e]
theorem Zj6 {l : List Au} (h : l.length * 32 ≤ 140737488355328) : Qs.f l = some l := by
 unfold Qs.f
 by_cases he : l = []
 ·subst he
  rw [Z1 (by simp)]
  exact nq_same
 ·unfold nq
  rw [if_pos he, Z1 (by simp; omega)]
  rfl
abbrev TyAu : Ty := .pair (.int .i64) (.pair .str (.int .i64))
end Go.Proofs.YtahlodpolggeiaaGreatDoor
set_option linter.unusedVariables false
set_option linter.unusedSimpArgs false
namespace Go.Proofs.YtahlodpolggeiaaGreatDoor
open Go Go.Lib Go.Proofs.YtahlodpolggeiaaGreatDoor.Eng
theorem mup_ext {α : Type} {a b : List (ByteArray × α)} (ha : MUp a) (hb : MUp b) (h : ∀ k, Zz k a = Zz k b) : a = b := by
 have na : a.Nodup := List.Pairwise.imp (fun {p q} hpq e => by subst e; rw [Z3r] at hpq; cases hpq) ha
 have nb : b.Nodup := List.Pairwise.imp (fun {p q} hpq e => by subst e; rw [Z3r] at hpq; cases hpq) hb
 have hp : List.Perm a b := (List.perm_ext_iff_of_nodup na nb).2 fun p => by
  have h1 := mgetA_mem (k := p.1) ha.nodup p.2
  have h2 := mgetA_mem (k := p.1) hb.nodup p.2
  rw [h p.1] at h1
  exact (h1.symm.trans h2)
 exact List.Perm.eq_of_pairwise (fun p q _ _ h1 h2 => by
  have := Z3q h1 h2
  rw [Z3r] at this; cases this) ha hb hp
theorem Zcr {α : Type} {k : ByteArray} {v : α} {es : List (ByteArray × α)} (h : MUp es) : MUp (mset k v es) := msetA_up h
theorem Z1i {α : Type} (x y : ByteArray) (v : α) (es : List (ByteArray × α)) : mget x (mset y v es) = if x = y then some v else mget x es := Z7k x y v es
def Z31 {α β : Type} (v : β) (l : List (ByteArray × α)) (acc : List (ByteArray × β)) : List (ByteArray × β) := l.foldl (fun a p => mset p.1 v a) acc
theorem Zag {α β : Type} {v : β} : ∀ (l : List (ByteArray × α)) {acc : List (ByteArray × β)}, MUp acc → MUp (Z31 v l acc)
 | [], _, h => h
 | p :: r, _, h => Zag r (Zcr h)
open Classical in
theorem Z3u {α β : Type} {v : β} (x : ByteArray) : ∀ (l : List (ByteArray × α)) (acc : List (ByteArray × β)), mget x (Z31 v l acc) = if (x ∈ l.map fun p => p.1) then some v else mget x acc
 | [], acc => by rw [if_neg (by simp)]; rfl
 | p :: r, acc => by
  show mget x (Z31 v r (mset p.1 v acc)) = _
  rw [Z3u x r, Z1i]
  by_cases h1 : x ∈ r.map (·.1)
  ·rw [if_pos h1, if_pos (by simp only [List.map_cons, List.mem_cons]; exact .inr h1)]
  ·rw [if_neg h1]
   by_cases h2 : x = p.1
   ·rw [if_pos h2, if_pos (by simp only [List.map_cons, List.mem_cons]; exact .inl h2)]
   ·rw [if_neg h2, if_neg (by simp only [List.map_cons, List.mem_cons, not_or]; exact ⟨h2, h1⟩)]
open Classical in
theorem Zep {α β : Type} {v : β} {l l' : List (ByteArray × α)} (hp : List.Perm l l') : Z31 v l [] = Z31 v l' [] := by
 refine mup_ext (Zag l List.Pairwise.nil) (Zag l' List.Pairwise.nil) fun k => ?_
 show mget k _ = mget k _
 rw [Z3u, Z3u]
 have : k ∈ l.map (·.1) ↔ k ∈ l'.map (·.1) := (hp.map _).mem_iff
 by_cases h : k ∈ l'.map (·.1)
 ·rw [if_pos (this.2 h), if_pos h]
 ·rw [if_neg (fun h2 => h (this.1 h2)), if_neg h]
abbrev MB : Type := List (ByteArray × Bool)
abbrev MI : Type := List (ByteArray × Int)
theorem Zfj (S : MB) : Qa.l0 S [] [] = some (Z31 (-1 : Int) S [], []) := by
 have go : ∀ (l : MB) (acc : MI) (e : MB), Z3i (fun (x : MI × MB) e => Qa.s0 x.1 x.2 e) l (acc, e) = some (Z31 (-1 : Int) l acc, e) := by
  intro l
  induction l with
  | nil => intro acc e; rfl
  | cons p r ih =>
   intro acc e
   rw [Z4k]
   exact ih (mset p.1 (-1) acc) e
 refine Zi1 fun l hp => ?_
 rw [go l [] [], Zep hp]
def Z17 (S : MB) : Nat → List Cl → List Bool → List Bool → MI → MB → MI
 | k, c :: r, a :: A, w :: W, R, E => match w with
  | true => Z17 S (k + 1) r A W R (mset c.2.2.2.1 true E)
  | false => (match a && (Option.getD (mget c.2.2.2.1 S) false && !Option.getD (mget c.2.2.2.1 E) false) with
   | true => Z17 S (k + 1) r A W (mset c.2.2.2.1 (k : Int) R) E
   | false => Z17 S (k + 1) r A W R E)
 | _, _, _, _, R, _ => R
theorem Zfi {l : List Cl} (hl : l.length ≤ 1000) {A W : List Bool} (hA : A.length = l.length) (hW : W.length = l.length) (S : MB) : ∀ (n k : Nat) (R : MI) (E : MB), l.length - k = n →
  ∃ E', Qa.l1 (A, (W, S)) l (l.length : Int) (k : Int) R E = some (Z17 S k (l.drop k) (A.drop k) (W.drop k) R E, E') := by
 intro n
 induction n with
 | zero =>
  intro k R E hk
  refine ⟨E, Z3 ?_⟩
  simp only [Qa.s1, Z5]
  rw [if_neg (by omega), List.drop_eq_nil_of_le (by omega)]
  rfl
 | succ n ih =>
  intro k R E hk
  have hlt : k < l.length := by omega
  have hltA : k < A.length := by omega
  have hltW : k < W.length := by omega
  have e : ((k : Int) + 1) = ((k + 1 : Nat) : Int) := by omega
  have gA : rd false A (k : Int) = A[k] := by simp [rd, List.getD, List.getElem?_eq_getElem hltA]
  have gW : rd false W (k : Int) = W[k] := by simp [rd, List.getD, List.getElem?_eq_getElem hltW]
  have c1 : ∀ {β : Type} (x : Option β), ck (0 ≤ (k : Int) ∧ (k : Int) < ((List.length W : Nat) : Int)) x = x := fun x => Z1 ⟨by omega, by omega⟩
  have c2 : ∀ {β : Type} (x : Option β), ck (0 ≤ (k : Int) ∧ (k : Int) < ((List.length A : Nat) : Int)) x = x := fun x => Z1 ⟨by omega, by omega⟩
  have c3 : ∀ {β : Type} (x : Option β), ck (InR (((k + 1 : Nat) : Int))) x = x := fun x => Zk (by omega) (by omega)
  rw [List.drop_eq_getElem_cons hlt, List.drop_eq_getElem_cons hltA, List.drop_eq_getElem_cons hltW]
  have step : Qa.s1 (A, (W, S)) l (l.length : Int) (k : Int) R E = some (.inl (((k + 1 : Nat) : Int), (match W[k] with
    | true => (R, mset l[k].2.2.2.1 true E)
    | false => (match A[k] && (Option.getD (mget l[k].2.2.2.1 S) false && !Option.getD (mget l[k].2.2.2.1 E) false) with
     | true => (mset l[k].2.2.2.1 (k : Int) R, E)
     | false => (R, E))))) := by
   simp only [Qa.s1]
   rw [decide_eq_true (by omega), cb_t, Z1 ⟨by omega, by omega⟩]
   simp only [Z12 hlt, c1, gW, c2, gA, e, c3]
   cases W[k] with
   | true => rfl
   | false =>
    cases A[k] with
    | false => rfl
    | true =>
     cases Option.getD (mget l[k].2.2.2.1 S) false with
     | false => rfl
     | true =>
      cases Option.getD (mget l[k].2.2.2.1 E) false <;> rfl
  unfold Z17
  cases hw : W[k] with
  | true =>
   rw [hw] at step
   obtain ⟨E', h⟩ := ih (k + 1) R (mset l[k].2.2.2.1 true E) (by omega)
   exact ⟨E', (Z4 step).trans h⟩
  | false =>
   rw [hw] at step
   cases hb : (A[k] && (Option.getD (mget l[k].2.2.2.1 S) false && !Option.getD (mget l[k].2.2.2.1 E) false)) with
   | true =>
    rw [hb] at step
    obtain ⟨E', h⟩ := ih (k + 1) (mset l[k].2.2.2.1 (k : Int) R) E (by omega)
    exact ⟨E', (Z4 step).trans h⟩
   | false =>
    rw [hb] at step
    obtain ⟨E', h⟩ := ih (k + 1) R E (by omega)
    exact ⟨E', (Z4 step).trans h⟩
theorem Zhp {l : List Cl} (hl : l.length ≤ 1000) {A W : List Bool} (hA : A.length = l.length) (hW : W.length = l.length) (S : MB) : Qa.f (A, (W, S)) l = some (Z17 S 0 l A W (Z31 (-1 : Int) S []) []) := by
 obtain ⟨E', h⟩ := Zfi hl hA hW S _ 0 (Z31 (-1 : Int) S []) [] rfl
 rw [show ((0 : Nat) : Int) = 0 from rfl, List.drop_zero, List.drop_zero, List.drop_zero] at h
 unfold Qa.f
 simp only [Zfj, ob_s, h]
def Z4v (us : List ByteArray) (bad good : MB) : Bool := us.any fun u => Option.getD (mget u bad) false && !Option.getD (mget u good) false
theorem usLoopB {us : List ByteArray} (hu : us.length ≤ 1000) (bad good : MB) : ∀ (n k : Nat), us.length - k = n →
  ∃ r, Q4.l0 us (bad, good) (us.length : Int) (k : Int) = some r ∧ ((r = .inr () ∧ Z4v (us.drop k) bad good = false) ∨ ∃ j : Nat, r = .inl (j : Int) ∧ Z4v (us.drop k) bad good = true) := by
 intro n
 induction n with
 | zero =>
  intro k hk
  refine ⟨.inr (), Z3 ?_, .inl ⟨rfl, ?_⟩⟩
  ·simp only [Q4.s0, Z5]
   rw [if_neg (by omega)]
  ·rw [List.drop_eq_nil_of_le (by omega)]; rfl
 | succ n ih =>
  intro k hk
  have hlt : k < us.length := by omega
  have e : ((k : Int) + 1) = ((k + 1 : Nat) : Int) := by omega
  obtain ⟨r, h1, h2⟩ := ih (k + 1) (by omega)
  rw [List.drop_eq_getElem_cons hlt]
  have e1 : Q21.f us[k] bad good = some (Option.getD (mget us[k] bad) false && !Option.getD (mget us[k] good) false) := by
   unfold Q21.f
   cases Option.getD (mget us[k] bad) false <;> rfl
  have e2 : Z4v (us[k] :: us.drop (k + 1)) bad good = ((Option.getD (mget us[k] bad) false && !Option.getD (mget us[k] good) false) || Z4v (us.drop (k + 1)) bad good) := rfl
  rw [e2]
  cases hb : (Option.getD (mget us[k] bad) false && !Option.getD (mget us[k] good) false) with
  | true =>
   refine ⟨.inl (k : Int), Z3 ?_, .inr ⟨k, rfl, rfl⟩⟩
   simp only [Q4.s0]
   rw [decide_eq_true (by omega), cb_t, Z1 ⟨by omega, by omega⟩, Z12 hlt]
   simp only [e1, hb, ob_s, cb_t]
  | false =>
   refine ⟨r, (Z4 ?_).trans h1, ?_⟩
   ·simp only [Q4.s0]
    rw [decide_eq_true (by omega), cb_t, Z1 ⟨by omega, by omega⟩, Z12 hlt]
    simp only [e1, hb, ob_s, cb_f]
    rw [Zk (by omega) (by omega), e]
   ·simpa using h2
theorem uses_eq {us : List ByteArray} (hu : us.length ≤ 1000) (bad good : MB) : Qf.f us (bad, good) = some (Z4v us bad good) := by
 obtain ⟨r, h1, h2⟩ := usLoopB hu bad good _ 0 rfl
 rw [show ((0 : Nat) : Int) = 0 from rfl] at h1
 rw [List.drop_zero] at h2
 unfold Qf.f Q4.f
 simp only [h1, ob_s]
 rcases h2 with ⟨rfl, h3⟩ | ⟨j, rfl, h3⟩
 ·rw [h3]; rfl
 ·rw [h3]
  show some (decide ((0 : Int) ≤ (j : Int))) = _
  rw [decide_eq_true (by omega)]
def Z28 (R : MI) (k : Nat) (c : Cl) (a w : Bool) (bad good : MB) : Bool :=
 w || ((Option.isSome (mget c.2.2.2.1 R) && (!a && decide (Option.getD (mget c.2.2.2.1 R) 0 < (k : Int)))) || Z4v c.2.2.2.2.2.1 bad good)
def Z3h (R : MI) : Nat → List Cl → List Bool → List Bool → MB → MB → List Bool
 | k, c :: r, a :: A, w :: W, bad, good => Z28 R k c a w bad good :: (match Z28 R k c a w bad good with
  | true => Z3h R (k + 1) r A W (mset c.2.2.1 true bad) good
  | false => Z3h R (k + 1) r A W bad (mset c.2.2.1 true good))
 | _, _, _, _, _, _ => []
theorem Z35 (R : MI) (k : Nat) (c : Cl) (r : List Cl) (a w : Bool) (A W : List Bool) (bad good : MB) : Z3h R k (c :: r) (a :: A) (w :: W) bad good = Z28 R k c a w bad good :: (match Z28 R k c a w bad good with
  | true => Z3h R (k + 1) r A W (mset c.2.2.1 true bad) good
  | false => Z3h R (k + 1) r A W bad (mset c.2.2.1 true good)) := rfl
theorem Zf4 {l : List Cl} (hl : l.length ≤ 1000) (hu : ∀ c ∈ l, c.2.2.2.2.2.1.length ≤ 1000) {A W : List Bool} (hA : A.length = l.length) (hW : W.length = l.length) (S : MB) (R : MI) : ∀ (n k : Nat) (o : List Bool) (bad good : MB), l.length - k = n → k ≤ l.length → o.length = l.length →
  ∃ b' g', Qz.l0 (A, (W, S)) R l (l.length : Int) (k : Int) o bad good = some (o.take k ++ Z3h R k (l.drop k) (A.drop k) (W.drop k) bad good, b', g') := by
 intro n
 induction n with
 | zero =>
  intro k o bad good hk hkl ho
  refine ⟨bad, good, Z3 ?_⟩
  simp only [Qz.s0, Z5]
  rw [if_neg (by omega), List.drop_eq_nil_of_le (by omega), List.take_of_length_le (by omega)]
  simp [Z3h]
 | succ n ih =>
  intro k o bad good hk hkl ho
  have hlt : k < l.length := by omega
  have hltA : k < A.length := by omega
  have hltW : k < W.length := by omega
  have e : ((k : Int) + 1) = ((k + 1 : Nat) : Int) := by omega
  have gA : rd false A (k : Int) = A[k] := by simp [rd, List.getD, List.getElem?_eq_getElem hltA]
  have gW : rd false W (k : Int) = W[k] := by simp [rd, List.getD, List.getElem?_eq_getElem hltW]
  have c1 : ∀ {β : Type} (x : Option β), ck (0 ≤ (k : Int) ∧ (k : Int) < ((List.length W : Nat) : Int)) x = x := fun x => Z1 ⟨by omega, by omega⟩
  have c2 : ∀ {β : Type} (x : Option β), ck (0 ≤ (k : Int) ∧ (k : Int) < ((List.length A : Nat) : Int)) x = x := fun x => Z1 ⟨by omega, by omega⟩
  have c3 : ∀ {β : Type} (x : Option β), ck (InR (((k + 1 : Nat) : Int))) x = x := fun x => Zk (by omega) (by omega)
  have c4 : ∀ {β : Type} (x : Option β), ck (0 ≤ (k : Int) ∧ (k : Int) < ((List.length o : Nat) : Int)) x = x := fun x => Z1 ⟨by omega, by omega⟩
  have c5 : ∀ {β : Type} (x : Option β), ck (k < List.length o) x = x := fun x => Z1 (by omega)
  have c6 : ∀ (v : Bool) {β : Type} (x : Option β), ck (0 ≤ (k : Int) ∧ (k : Int) < ((List.length (List.set o k v) : Nat) : Int)) x = x := fun v _ x => Z1 ⟨by omega, by rw [List.length_set]; omega⟩
  have c7 : ∀ (v : Bool) {β : Type} (x : Option β), ck (k < List.length (List.set o k v)) x = x := fun v _ x => Z1 (by rw [List.length_set]; omega)
  have gS : ∀ v : Bool, List.getD (List.set o k v) k false = v := fun v => by simp [List.getD, List.getElem?_set_self (show k < o.length by omega)]
  have hU := uses_eq (hu _ (List.getElem_mem hlt)) bad good
  rw [List.drop_eq_getElem_cons hlt, List.drop_eq_getElem_cons hltA, List.drop_eq_getElem_cons hltW]
  have step : Qz.s0 (A, (W, S)) R l (l.length : Int) (k : Int) o bad good = some (.inl (((k + 1 : Nat) : Int), o.set k (Z28 R k l[k] A[k] W[k] bad good), (match Z28 R k l[k] A[k] W[k] bad good with
    | true => (mset l[k].2.2.1 true bad, good)
    | false => (bad, mset l[k].2.2.1 true good)))) := by
   simp only [Qz.s0]
   rw [decide_eq_true (by omega), cb_t, Z1 ⟨by omega, by omega⟩]
   simp only [Z12 hlt, c1, gW, c2, gA, e, c3, c4, Int.toNat_natCast, c5, c6, c7, gS, hU, ob_s]
   unfold Z28
   cases W[k] with
   | true => rfl
   | false =>
    cases Option.isSome (mget l[k].2.2.2.1 R) with
    | false =>
     cases Z4v l[k].2.2.2.2.2.1 bad good <;> rfl
    | true =>
     cases A[k] with
     | true => cases Z4v l[k].2.2.2.2.2.1 bad good <;> rfl
     | false =>
      cases decide (Option.getD (mget l[k].2.2.2.1 R) 0 < (k : Int)) with
      | true => rfl
      | false => cases Z4v l[k].2.2.2.2.2.1 bad good <;> rfl
  have ht : (o.set k (Z28 R k l[k] A[k] W[k] bad good)).take (k + 1) = o.take k ++ [Z28 R k l[k] A[k] W[k] bad good] := by
   rw [List.take_add_one, List.take_set_of_le (Nat.le_refl k), List.getElem?_set_self (by omega)]
   rfl
  cases hb : Z28 R k l[k] A[k] W[k] bad good with
  | true =>
   rw [hb] at step ht
   obtain ⟨b', g', h⟩ := ih (k + 1) (o.set k true) (mset l[k].2.2.1 true bad) good (by omega) (by omega) (by simp [ho])
   refine ⟨b', g', (Z4 step).trans (h.trans ?_)⟩
   rw [ht, Z35, hb]
   simp
  | false =>
   rw [hb] at step ht
   obtain ⟨b', g', h⟩ := ih (k + 1) (o.set k false) bad (mset l[k].2.2.1 true good) (by omega) (by omega) (by simp [ho])
   refine ⟨b', g', (Z4 step).trans (h.trans ?_)⟩
   rw [ht, Z35, hb]
   simp
end Go.Proofs.YtahlodpolggeiaaGreatDoor
set_option linter.unusedVariables false
set_option linter.unusedSimpArgs false
namespace Go.Proofs.YtahlodpolggeiaaGreatDoor
open Go Go.Lib Go.Proofs.YtahlodpolggeiaaGreatDoor.Eng
theorem Z6v {d : List (List UInt8)} {j : Nat} (h : j < d.length) : d.toArray[j]! = d[j] := by
 rw [getElem!_pos _ j (by simpa using h)]; simp
theorem Z4g {d : List (List UInt8)} (hd : d.Pairwise (fun x y => x ≤ y)) : ∀ m : Nat, m ≤ d.length → (Lib.compactUpTo d.toArray m).Pairwise (fun x y => x < y) ∧ ∀ j, m = j + 1 → ∀ x ∈ Lib.compactUpTo d.toArray m, x ≤ d.toArray[j]!
 | 0, _ => ⟨by simp [Lib.compactUpTo], fun j h => by cases h⟩
 | m + 1, hm => by
  obtain ⟨h1, h2⟩ := Z4g hd m (by omega)
  rw [Lib.compactUpTo_succ]
  have hself : ∀ x : List UInt8, x ≤ x := fun x => List.le_refl x
  cases hk : Lib.keeps d.toArray m with
  | true =>
   rw [if_pos rfl]
   have hk' : m = 0 ∨ d.toArray[m]! ≠ d.toArray[m - 1]! := of_decide_eq_true hk
   refine ⟨List.pairwise_append.2 ⟨h1, List.pairwise_singleton _ _, fun x hx y hy => ?_⟩, fun j hj x hx => ?_⟩
   ·have hy' : y = d.toArray[m]! := by simpa using hy
    rw [hy']
    cases m with
    | zero => simp [Lib.compactUpTo] at hx
    | succ m =>
     have h3 := h2 m rfl x hx
     have h4 : d.toArray[m + 1]! ≠ d.toArray[m]! := by
      rcases hk' with h | h
      ·omega
      ·exact h
     have h5 : d.toArray[m]! ≤ d.toArray[m + 1]! := by
      rw [Z6v (by omega), Z6v (by omega)]
      exact List.pairwise_iff_getElem.1 hd m (m + 1) (by omega) (by omega) (by omega)
     have h6 : x ≤ d.toArray[m + 1]! := List.le_trans h3 h5
     refine Classical.byContradiction fun hn => h4 ?_
     exact List.le_antisymm (List.le_trans (List.not_lt.1 hn) h3) h5
   ·have hjm : j = m := by omega
    subst hjm
    rcases List.mem_append.1 hx with hx | hx
    ·cases j with
     | zero => simp [Lib.compactUpTo] at hx
     | succ m =>
      have h5 : d.toArray[m]! ≤ d.toArray[m + 1]! := by
       rw [Z6v (by omega), Z6v (by omega)]
       exact List.pairwise_iff_getElem.1 hd m (m + 1) (by omega) (by omega) (by omega)
      exact List.le_trans (h2 m rfl x hx) h5
    ·have : x = d.toArray[j]! := by simpa using hx
     rw [this]; exact hself _
  | false =>
   rw [if_neg (by simp), List.append_nil]
   have hk' : ¬ (m = 0 ∨ d.toArray[m]! ≠ d.toArray[m - 1]!) := of_decide_eq_false hk
   refine ⟨h1, fun j hj x hx => ?_⟩
   have hjm : j = m := by omega
   subst hjm
   cases j with
   | zero => exact absurd (.inl rfl) hk'
   | succ m =>
    have h4 : d.toArray[m + 1]! = d.toArray[m]! := Classical.byContradiction fun h => hk' (.inr h)
    rw [h4]
    exact h2 m rfl x hx
theorem Z79 (xs : List ByteArray) : (Zs (Zx xs)).Pairwise fun x y => klt x y = true := by
 have e : (Zx xs).map toL = (xs.map toL).mergeSort fun x y => decide (x ≤ y) := by
  unfold Zx
  rw [List.map_map]
  exact (List.map_congr_left fun l _ => Z9a l).trans (List.map_id _)
 have hs : ((xs.map toL).mergeSort fun x y => decide (x ≤ y)).Pairwise (fun x y => x ≤ y) := by
  have := List.pairwise_mergeSort (le := fun x y : List UInt8 => decide (x ≤ y)) (fun a b c h1 h2 => decide_eq_true (List.le_trans (of_decide_eq_true h1) (of_decide_eq_true h2))) (fun a b => by
   rcases List.le_total a b with h | h
   ·simp [h]
   ·simp [h]) (xs.map toL)
  exact this.imp fun {a b} h => of_decide_eq_true h
 unfold Zs
 rw [List.pairwise_map, e]
 have h1 := (Z4g hs _ (Nat.le_refl _)).1
 refine List.Pairwise.imp (fun {a b} hab => ?_) h1
 unfold klt
 refine decide_eq_true ?_
 show toL (ofL a) < toL (ofL b)
 rw [Z9a, Z9a]; exact hab
theorem Zg5 {S : MB} (hS : MUp S) {xs : List ByteArray} (h : ∀ x, x ∈ S.map (fun p => p.1) ↔ x ∈ xs) : S.map (fun p => p.1) = Zs (Zx xs) := by
 have h1 : (S.map (fun p => p.1)).Pairwise fun x y => klt x y = true := by rw [List.pairwise_map]; exact hS
 have h2 := Z79 xs
 have nd : ∀ {l : List ByteArray}, l.Pairwise (fun x y => klt x y = true) → l.Nodup := fun h => h.imp fun {p q} hpq e => by subst e; rw [Z3r] at hpq; cases hpq
 refine List.Perm.eq_of_pairwise (fun p q _ _ h1 h2 => ?_) h1 h2 ((List.perm_ext_iff_of_nodup (nd h1) (nd h2)).2 fun x => (h x).trans (Z9k xs x).symm)
 have := Z3q h1 h2
 rw [Z3r] at this; cases this
theorem Zbf {α : Type} (k : ByteArray) (v : α) : ∀ es : List (ByteArray × α), (Z1q k v es).length ≤ es.length + 1
 | [] => by simp [Z1q]
 | p :: r => by
  have := Zbf k v r
  unfold Z1q
  split <;> simp <;> omega
structure SGood (S : MB) : Prop where
 up : MUp S
 yes : ∀ p ∈ S, p.2 = true
theorem Z9w {l : List Cl} : ∀ (m : List Au) (t : Fc), SGood t.2.2 → SGood (fcs l m t).2.2 ∧ (fcs l m t).2.2.length ≤ t.2.2.length + m.length
 | [], t, h => ⟨h, Nat.le_refl _⟩
 | a :: r, t, h => by
  rw [Z9x]
  cases hs : same l a with
  | true =>
   obtain ⟨h1, h2⟩ := Z9w r (t.1.set a.1.toNat true, t.2.1, t.2.2) h
   refine ⟨h1, Nat.le_trans h2 ?_⟩
   simp
  | false =>
   obtain ⟨h1, h2⟩ := Z9w (l := l) r (t.1.set a.1.toNat true, t.2.1.set a.1.toNat true, mset (rd C0 l a.1).2.2.2.1 true t.2.2) ⟨Zcr h.up, fun p hp => by
    rcases msetA_mem hp with rfl | hp
    ·rfl
    ·exact h.yes p hp⟩
   refine ⟨h1, Nat.le_trans h2 ?_⟩
   have := Zbf (rd C0 l a.1).2.2.2.1 true t.2.2
   simp only [List.length_cons]
   show (mset _ _ _).length + _ ≤ _
   unfold mset
   omega
theorem SGood.mem {S : MB} (h : SGood S) (x : ByteArray) : x ∈ S.map (fun p => p.1) ↔ Option.getD (mget x S) false = true := by
 constructor
 ·intro hx
  obtain ⟨p, hp, rfl⟩ := List.mem_map.1 hx
  have h1 := (mgetA_mem (k := p.1) h.up.nodup p.2).2 hp
  show Option.getD (Zz p.1 S) false = true
  rw [h1, h.yes p hp]; rfl
 ·intro hx
  cases hg : Zz x S with
  | none =>
   have hx : Option.getD (Zz x S) false = true := hx
   rw [hg] at hx; cases hx
  | some v => exact List.mem_map.2 ⟨(x, v), (mgetA_mem h.up.nodup v).1 hg, rfl⟩
theorem Z3x (R : MI) : ∀ (l : List Cl) (k : Nat) (A W : List Bool) (bad good : MB), A.length = l.length → W.length = l.length → (Z3h R k l A W bad good).length = l.length
 | [], k, A, W, _, _, _, _ => by simp [Z3h]
 | c :: r, k, [], W, _, _, h, _ => by simp at h
 | c :: r, k, a :: A, [], _, _, _, h => by simp at h
 | c :: r, k, a :: A, w :: W, bad, good, h1, h2 => by
  rw [Z35]
  have e1 : A.length = r.length := by simpa using h1
  have e2 : W.length = r.length := by simpa using h2
  cases Z28 R k c a w bad good with
  | true => simp only [List.length_cons, Z3x R r (k + 1) A W _ _ e1 e2]
  | false => simp only [List.length_cons, Z3x R r (k + 1) A W _ _ e1 e2]
end Go.Proofs.YtahlodpolggeiaaGreatDoor
set_option linter.unusedVariables false
set_option linter.unusedSimpArgs false
namespace Go.Proofs.YtahlodpolggeiaaGreatDoor
open Go Go.Lib Go.Proofs.YtahlodpolggeiaaGreatDoor.Eng
noncomputable def fcs0 (l : List Cl) (m : List Au) : Fc := fcs l m (List.replicate l.length false, List.replicate l.length false, [])
noncomputable def Zfh (l : List Cl) (m : List Au) : MI := Z17 (fcs0 l m).2.2 0 l (fcs0 l m).1 (fcs0 l m).2.1 (Z31 (-1 : Int) (fcs0 l m).2.2 []) []
noncomputable def Z4c (l : List Cl) (m : List Au) : List Bool := Z3h (Zfh l m) 0 l (fcs0 l m).1 (fcs0 l m).2.1 [] []
theorem Z47 (l : List Cl) (m : List Au) : (fcs0 l m).1.length = l.length ∧ (fcs0 l m).2.1.length = l.length := by
 have h := Zgl l m (List.replicate l.length false, List.replicate l.length false, [])
 unfold fcs0
 exact ⟨by rw [h.1]; simp, by rw [h.2]; simp⟩
theorem OkA.few {l : List Cl} {m : List Au} (hA : OkA l m) : ∀ c ∈ l, c.2.2.2.2.2.1.length ≤ 1000 := fun c hc => Nat.le_trans (hA.log.ok c hc).2.many (by decide)
theorem Zdy {l : List Cl} {m : List Au} (hA : OkA l m) : Qz.f l m = some (Z4c l m) := by
 have hl := hA.log.len
 obtain ⟨h1, h2⟩ := Z47 l m
 obtain ⟨b', g', h3⟩ := Zf4 hl hA.few h1 h2 (fcs0 l m).2.2 (Zfh l m) _ 0 (List.replicate l.length false) [] [] rfl (Nat.zero_le _) (by simp)
 rw [show ((0 : Nat) : Int) = 0 from rfl, List.drop_zero, List.drop_zero, List.drop_zero, List.take_zero, List.nil_append] at h3
 have h4 := Zhp hl h1 h2 (fcs0 l m).2.2
 have hf : Qk.f l m = some ((fcs0 l m).1, ((fcs0 l m).2.1, (fcs0 l m).2.2)) := Z9y hA
 have hck : ∀ {β : Type} (a : Option β), ck (0 ≤ ((List.length l : Nat) : Int) ∧ ((List.length l : Nat) : Int) * (1 : Int) ≤ 140737488355328) a = a := fun a => Z1 ⟨by omega, by omega⟩
 unfold Qz.f
 simp only [hf, ob_s, h4, hck, Int.toNat_natCast]
 show ob (Qz.l0 _ (Zfh l m) l (l.length : Int) 0 (List.replicate l.length false) [] []) _ = _
 rw [h3]
 rfl
theorem sgood (l : List Cl) (m : List Au) : SGood (fcs0 l m).2.2 ∧ (fcs0 l m).2.2.length ≤ m.length := by
 have h := Z9w (l := l) m (List.replicate l.length false, List.replicate l.length false, []) ⟨List.Pairwise.nil, fun p hp => by cases hp⟩
 refine ⟨h.1, Nat.le_trans h.2 ?_⟩
 simp
theorem susW {l : List Cl} {m : List Au} (hA : OkA l m) : SusW l (fcs0 l m) := Zgk m _ hA.num (by simp) (fun x => by
 constructor
 ·intro h; cases h
 ·rintro ⟨i, hi, h1, _⟩
  have h1 : (List.replicate l.length false)[i]? = some true := h1
  rw [List.getElem?_replicate] at h1
  split at h1 <;> cases h1)
theorem Zi4 {l : List Cl} {m : List Au} (hA : OkA l m) : KeysFit (fcs0 l m).2.2 := by
 obtain ⟨h1, h2⟩ := sgood l m
 have hm := hA.len
 refine ⟨by omega, fun p hp => ?_⟩
 have h3 := (h1.mem p.1).1 (List.mem_map_of_mem hp)
 obtain ⟨i, hi, _, h4⟩ := (susW hA p.1).1 h3
 rw [← h4]
 have := Z8i (hA.log.ok _ (List.getElem_mem hi)).2.writer
 exact Nat.le_trans this (by decide)
theorem Zat {l : List Cl} {m : List Au} (hA : OkA l m) : (fcs0 l m).2.2.map (fun p => p.1) = Zs (Zx (wrs l (fcs0 l m).2.1)) := by
 obtain ⟨h1, _⟩ := sgood l m
 refine Zg5 h1.up fun x => ?_
 rw [h1.mem, Zfv]
 exact susW hA x
theorem Zc8 {l : List Cl} {m : List Au} (hA : OkA l m) (h0 : Qe.f l m = some 0) : Q1w.f l m = some (Zs (Zx (wrs l (fcs0 l m).2.1)), 0) := by
 have hf : Qk.f l m = some ((fcs0 l m).1, ((fcs0 l m).2.1, (fcs0 l m).2.2)) := Z9y hA
 unfold Q1w.f
 simp only [h0, ob_s, decide_true, Bool.not_true, cb_f, hf]
 have e1 : Q1l.f (fcs0 l m).2.2 = some (fcs0 l m).2.2 := rfl
 have e2 : Q28.f (fcs0 l m).2.2 = some ((fcs0 l m).2.2.map (fun p => p.1)) := Z1 (Zi4 hA)
 rw [e1, ob_s, e2, ob_s, Zat hA]
theorem Zeq {l : List Cl} {m : List Au} (hA : OkA l m) (h0 : Qe.f l m = some 0) : Q23.f l m = some (nums 0 (Z4c l m), 0) := by
 obtain ⟨h1, h2⟩ := Z47 l m
 have hT : (Z4c l m).length = l.length := Z3x _ _ _ _ _ _ _ h1 h2
 have hl := hA.log.len
 unfold Q23.f
 simp only [h0, ob_s, decide_true, Bool.not_true, cb_f, Zdy hA, Z8r (show (Z4c l m).length ≤ 1000 by omega)]
end Go.Proofs.YtahlodpolggeiaaGreatDoor
set_option linter.unusedVariables false
set_option linter.unusedSimpArgs false
namespace Go.Proofs.YtahlodpolggeiaaGreatDoor
open Go Go.Lib Go.Proofs.YtahlodpolggeiaaGreatDoor.Eng
def gR (w : ByteArray) : Nat → List Cl → List Bool → List Bool → Int → Bool → Int
 | k, c :: r, a :: A, b :: W, g, e => match decide (c.2.2.2.1 = w) with
  | false => gR w (k + 1) r A W g e
  | true => (match b with
   | true => gR w (k + 1) r A W g true
   | false => (match a && !e with
    | true => gR w (k + 1) r A W (k : Int) e
    | false => gR w (k + 1) r A W g e))
 | _, _, _, _, g, _ => g
theorem Zgg (w : ByteArray) (k : Nat) (c : Cl) (r : List Cl) (a b : Bool) (A W : List Bool) (g : Int) (e : Bool) : gR w k (c :: r) (a :: A) (b :: W) g e = (match decide (c.2.2.2.1 = w) with
  | false => gR w (k + 1) r A W g e
  | true => (match b with
   | true => gR w (k + 1) r A W g true
   | false => (match a && !e with
    | true => gR w (k + 1) r A W (k : Int) e
    | false => gR w (k + 1) r A W g e))) := rfl
theorem Ziw (w : ByteArray) : ∀ (l : List Cl) (k : Nat) (A W : List Bool) (g : Int), gR w k l A W g true = g
 | [], _, _, _, _ => by simp [gR]
 | c :: r, k, [], _, _ => by simp [gR]
 | c :: r, k, a :: A, [], _ => by simp [gR]
 | c :: r, k, a :: A, b :: W, g => by
  have ih := Ziw w r (k + 1) A W g
  unfold gR
  cases decide (c.2.2.2.1 = w) with
  | false => exact ih
  | true =>
   cases b with
   | true => exact ih
   | false =>
    rw [Bool.not_true, Bool.and_false]
    exact ih
theorem Z3b {S : MB} {w : ByteArray} (hs : Option.getD (mget w S) false = true) : ∀ (l : List Cl) (k : Nat) (A W : List Bool) (R : MI) (E : MB) (g : Int) (e : Bool), A.length = l.length → W.length = l.length → mget w R = some g → Option.getD (mget w E) false = e → mget w (Z17 S k l A W R E) = some (gR w k l A W g e)
 | [], k, A, W, R, E, g, e, _, _, h, _ => by simpa [Z17, gR] using h
 | c :: r, k, [], W, _, _, _, _, h, _, _, _ => by simp at h
 | c :: r, k, a :: A, [], _, _, _, _, _, h, _, _ => by simp at h
 | c :: r, k, a :: A, b :: W, R, E, g, e, h1, h2, hR, hE => by
  have e1 : A.length = r.length := by simpa using h1
  have e2 : W.length = r.length := by simpa using h2
  unfold Z17 gR
  by_cases hw : c.2.2.2.1 = w
  ·rw [decide_eq_true hw, hw, hs, hE]
   cases b with
   | true =>
    refine Z3b hs r (k + 1) A W R _ g true e1 e2 hR ?_
    rw [Z1i, if_pos rfl]; rfl
   | false =>
    rw [Bool.true_and]
    cases a && !e with
    | true =>
     refine Z3b hs r (k + 1) A W _ E (k : Int) e e1 e2 ?_ hE
     rw [Z1i, if_pos rfl]
    | false => exact Z3b hs r (k + 1) A W R E g e e1 e2 hR hE
  ·rw [decide_eq_false hw]
   cases b with
   | true =>
    refine Z3b hs r (k + 1) A W R _ g e e1 e2 hR ?_
    rw [Z1i, if_neg (fun h => hw h.symm)]; exact hE
   | false =>
    cases a && (Option.getD (mget c.2.2.2.1 S) false && !Option.getD (mget c.2.2.2.1 E) false) with
    | true =>
     refine Z3b hs r (k + 1) A W _ E g e e1 e2 ?_ hE
     rw [Z1i, if_neg (fun h => hw h.symm)]; exact hR
    | false => exact Z3b hs r (k + 1) A W R E g e e1 e2 hR hE
theorem Z37 {S : MB} {w : ByteArray} (hs : Option.getD (mget w S) false = false) : ∀ (l : List Cl) (k : Nat) (A W : List Bool) (R : MI) (E : MB), mget w R = none → mget w (Z17 S k l A W R E) = none
 | [], k, A, W, R, E, h => by simpa [Z17] using h
 | c :: r, k, [], W, R, E, h => by simpa [Z17] using h
 | c :: r, k, a :: A, [], R, E, h => by simpa [Z17] using h
 | c :: r, k, a :: A, b :: W, R, E, h => by
  unfold Z17
  cases b with
  | true => exact Z37 hs r (k + 1) A W R _ h
  | false =>
   cases hc : (a && (Option.getD (mget c.2.2.2.1 S) false && !Option.getD (mget c.2.2.2.1 E) false)) with
   | true =>
    refine Z37 hs r (k + 1) A W _ E ?_
    rw [Z1i, if_neg (fun e => by
     rw [← e, hs] at hc
     cases a <;> simp at hc)]
    exact h
   | false => exact Z37 hs r (k + 1) A W R E h
def WrAt (l : List Cl) (W : List Bool) (w : ByteArray) (j : Nat) : Prop := ∃ h : j < l.length, l[j].2.2.2.1 = w ∧ W[j]? = some true
theorem dbX0 {l : List Cl} (hl : l.length ≤ 1000) {S : Sta} (hS : S.2.1.length = l.length) {i : Nat} (hi : i < l.length) (x : Int) : ∀ (n k : Nat), l.length - k = n → ∃ r : Int, Q5.l0 l (i : Int) S l (l.length : Int) x (k : Int) = some r ∧
  ((r = x ∧ ∀ j, k ≤ j → ¬ WrAt l S.2.1 l[i].2.2.2.1 j) ∨ ∃ j : Nat, k ≤ j ∧ r = (j : Int) ∧ WrAt l S.2.1 l[i].2.2.2.1 j ∧ ∀ q, k ≤ q → q < j → ¬ WrAt l S.2.1 l[i].2.2.2.1 q) := by
 intro n
 induction n with
 | zero =>
  intro k hk
  refine ⟨x, Z3 ?_, .inl ⟨rfl, fun j hj ⟨h, _⟩ => by omega⟩⟩
  simp only [Q5.s0, Z5]
  rw [if_neg (by omega)]
 | succ n ih =>
  intro k hk
  have hlt : k < l.length := by omega
  have hltW : k < S.2.1.length := by omega
  have e : ((k : Int) + 1) = ((k + 1 : Nat) : Int) := by omega
  have gW : rd false S.2.1 (k : Int) = S.2.1[k] := by simp [rd, List.getD, List.getElem?_eq_getElem hltW]
  have key : Q5.s0 l (i : Int) S l (l.length : Int) x (k : Int) = (match decide (l[k].2.2.2.1 = l[i].2.2.2.1) && S.2.1[k] with
    | true => some (.inr (k : Int))
    | false => some (.inl (x, ((k + 1 : Nat) : Int)))) := by
   simp only [Q5.s0]
   rw [decide_eq_true (by omega), cb_t, Z1 ⟨by omega, by omega⟩, Z1 ⟨by omega, by omega⟩, Z1 ⟨by omega, by omega⟩, Zk (by omega) (by omega), e]
   simp only [Z12 hlt, Z12 hi, gW]
   cases decide (l[k].2.2.2.1 = l[i].2.2.2.1) <;> cases S.2.1[k] <;> rfl
  cases hc : (decide (l[k].2.2.2.1 = l[i].2.2.2.1) && S.2.1[k]) with
  | true =>
   rw [hc] at key
   rw [Bool.and_eq_true] at hc
   refine ⟨(k : Int), Z3 key, .inr ⟨k, Nat.le_refl _, rfl, ⟨hlt, of_decide_eq_true hc.1, by rw [List.getElem?_eq_getElem hltW, hc.2]⟩, fun q h1 h2 => by omega⟩⟩
  | false =>
   rw [hc] at key
   have hno : ¬ WrAt l S.2.1 l[i].2.2.2.1 k := fun ⟨_, h1, h2⟩ => by
    rw [List.getElem?_eq_getElem hltW] at h2
    rw [decide_eq_true h1, Option.some.inj h2] at hc
    cases hc
   obtain ⟨r, h1, h2⟩ := ih (k + 1) (by omega)
   refine ⟨r, (Z4 key).trans h1, ?_⟩
   have hq : ∀ q, k ≤ q → (k + 1 ≤ q → ¬ WrAt l S.2.1 l[i].2.2.2.1 q) → ¬ WrAt l S.2.1 l[i].2.2.2.1 q := fun q h3 h4 => by
    rcases Nat.eq_or_lt_of_le h3 with h5 | h5
    ·subst h5; exact hno
    ·exact h4 h5
   rcases h2 with ⟨h2, h3⟩ | ⟨j, h2, h3, h4, h5⟩
   ·exact .inl ⟨h2, fun j hj => hq j hj fun h => h3 j h⟩
   ·exact .inr ⟨j, by omega, h3, h4, fun q h6 h7 => hq q h6 fun h => h5 q h h7⟩
theorem dbX1 {l : List Cl} (hl : l.length ≤ 1000) {S : Sta} (hA : S.1.length = l.length) (hS : S.2.1.length = l.length) {i : Nat} (hi : i < l.length) {j : Nat} (hj : WrAt l S.2.1 l[i].2.2.2.1 j) : ∀ (n k : Nat) (x : Int), j - k = n → k ≤ j → (∀ q, k ≤ q → q < j → ¬ WrAt l S.2.1 l[i].2.2.2.1 q) →
  Q5.l1 l (i : Int) S (j : Int) x (k : Int) = some (gR l[i].2.2.2.1 k (l.drop k) (S.1.drop k) (S.2.1.drop k) x false) := by
 obtain ⟨hjl, hj1, hj2⟩ := hj
 intro n
 induction n with
 | zero =>
  intro k x hk hkj hno
  have hkj' : k = j := by omega
  subst hkj'
  have hltA : k < S.1.length := by omega
  have hltW : k < S.2.1.length := by omega
  have hb : S.2.1[k] = true := by rw [List.getElem?_eq_getElem hltW] at hj2; exact Option.some.inj hj2
  refine Z3 ?_
  rw [List.drop_eq_getElem_cons hjl, List.drop_eq_getElem_cons hltA, List.drop_eq_getElem_cons hltW]
  rw [Zgg]
  rw [decide_eq_true hj1, hb]
  simp only [Q5.s1, Z5]
  rw [if_neg (by omega), Ziw]
 | succ n ih =>
  intro k x hk hkj hno
  have hlt : k < l.length := by omega
  have hltA : k < S.1.length := by omega
  have hltW : k < S.2.1.length := by omega
  have e : ((k : Int) + 1) = ((k + 1 : Nat) : Int) := by omega
  have gW : rd false S.2.1 (k : Int) = S.2.1[k] := by simp [rd, List.getD, List.getElem?_eq_getElem hltW]
  have gA : rd false S.1 (k : Int) = S.1[k] := by simp [rd, List.getD, List.getElem?_eq_getElem hltA]
  have hn := hno k (Nat.le_refl _) (by omega)
  rw [List.drop_eq_getElem_cons hlt, List.drop_eq_getElem_cons hltA, List.drop_eq_getElem_cons hltW]
  have key : Q5.s1 l (i : Int) S (j : Int) x (k : Int) = some (.inl ((match decide (l[k].2.2.2.1 = l[i].2.2.2.1) && (S.1[k] && !S.2.1[k]) with | true => (k : Int) | false => x), ((k + 1 : Nat) : Int))) := by
   simp only [Q5.s1]
   rw [decide_eq_true (by omega), cb_t, Z1 ⟨by omega, by omega⟩, Z1 ⟨by omega, by omega⟩, Z1 ⟨by omega, by omega⟩, Z1 ⟨by omega, by omega⟩, Zk (by omega) (by omega), Zk (by omega) (by omega), e]
   simp only [Z12 hlt, Z12 hi, gW, gA]
   cases decide (l[k].2.2.2.1 = l[i].2.2.2.1) <;> cases S.1[k] <;> cases S.2.1[k] <;> rfl
  have h2 := fun y => ih (k + 1) y (by omega) (by omega) (fun q h1 h2 => hno q (by omega) h2)
  refine ((Z4 key).trans (h2 _)).trans ?_
  rw [Zgg]
  by_cases hw : l[k].2.2.2.1 = l[i].2.2.2.1
  ·have hb : S.2.1[k] = false := by
    cases hb : S.2.1[k] with
    | false => rfl
    | true => exact absurd ⟨hlt, hw, by rw [List.getElem?_eq_getElem hltW, hb]⟩ hn
   rw [decide_eq_true hw, hb]
   cases S.1[k] <;> rfl
  ·rw [decide_eq_false hw]
   rfl
theorem Zcx {l : List Cl} (hl : l.length ≤ 1000) {S : Sta} (hA : S.1.length = l.length) (hS : S.2.1.length = l.length) {M : MB} (hM : SusW l (S.1, (S.2.1, M))) (hG : SGood M) {i : Nat} (hi : i < l.length) :
  Q5.f S l (i : Int) = some (Option.isSome (mget l[i].2.2.2.1 (Z17 M 0 l S.1 S.2.1 (Z31 (-1 : Int) M []) [])) && (!rd false S.1 (i : Int) && decide (Option.getD (mget l[i].2.2.2.1 (Z17 M 0 l S.1 S.2.1 (Z31 (-1 : Int) M []) [])) 0 < (i : Int)))) := by
 have hsus : Option.getD (mget l[i].2.2.2.1 M) false = true ↔ ∃ j, WrAt l S.2.1 l[i].2.2.2.1 j := by
  rw [show (Option.getD (mget l[i].2.2.2.1 M) false = true ↔ _) from hM l[i].2.2.2.1]
  exact ⟨fun ⟨j, h, h1, h2⟩ => ⟨j, h, h2, h1⟩, fun ⟨j, h, h1, h2⟩ => ⟨j, h, h2, h1⟩⟩
 unfold Q5.f
 rw [Z1 ⟨by omega, by omega⟩]
 obtain ⟨r, h1, h2⟩ := dbX0 hl hS hi (-1) _ 0 rfl
 rw [show ((0 : Nat) : Int) = 0 from rfl] at h1
 rcases h2 with ⟨rfl, h2⟩ | ⟨j, _, rfl, h3, h4⟩
 ·have hs : Option.getD (mget l[i].2.2.2.1 M) false = false := by
   cases h : Option.getD (mget l[i].2.2.2.1 M) false with
   | false => rfl
   | true =>
    obtain ⟨j, hj⟩ := hsus.1 h
    exact absurd hj (h2 j (Nat.zero_le _))
  have hn : mget l[i].2.2.2.1 (Z17 M 0 l S.1 S.2.1 (Z31 (-1 : Int) M []) []) = none := by
   refine Z37 hs l 0 _ _ _ _ ?_
   rw [Z3u, if_neg (fun h => by rw [(hG.mem _).1 h] at hs; cases hs)]
   rfl
  rw [hn]
  cases rd false S.1 (i : Int) with
  | true => rfl
  | false =>
   obtain ⟨q, hq⟩ := dbLoop1 hl hA hS hi (r := -1) (by omega) _ 0 (-1) rfl
   rw [show ((0 : Nat) : Int) = 0 from rfl] at hq
   simp only [cb_f, h1, ob_s, hq]
   rfl
 ·have hs : Option.getD (mget l[i].2.2.2.1 M) false = true := hsus.2 ⟨j, h3⟩
  have hn : mget l[i].2.2.2.1 (Z17 M 0 l S.1 S.2.1 (Z31 (-1 : Int) M []) []) = some (gR l[i].2.2.2.1 0 l S.1 S.2.1 (-1) false) := by
   refine Z3b hs l 0 _ _ _ _ (-1) false hA hS ?_ rfl
   rw [Z3u, if_pos ((hG.mem _).2 hs)]
  have h5 := dbX1 hl hA hS hi h3 _ 0 (-1) rfl (Nat.zero_le _) h4
  rw [show ((0 : Nat) : Int) = 0 from rfl, List.drop_zero, List.drop_zero, List.drop_zero] at h5
  rw [hn]
  cases rd false S.1 (i : Int) with
  | true => rfl
  | false =>
   simp only [cb_f, h1, ob_s, h5, Option.isSome_some, Option.getD_some, Bool.not_false, Bool.true_and]
   rw [decide_eq_true (by omega)]
   rfl
end Go.Proofs.YtahlodpolggeiaaGreatDoor
set_option linter.unusedVariables false
set_option linter.unusedSimpArgs false
namespace Go.Proofs.YtahlodpolggeiaaGreatDoor
open Go Go.Lib Go.Proofs.YtahlodpolggeiaaGreatDoor.Eng
def accB (u : ByteArray) : Nat → List Cl → List Bool → Bool → Bool → Bool × Bool
 | n + 1, c :: r, t :: T, x, y => (match decide (c.2.2.1 = u) with
  | true => accB u n r T (x || t) (y || !t)
  | false => accB u n r T x y)
 | _, _, _, x, y => (x, y)
theorem Z2g (u : ByteArray) (l : List Cl) (T : List Bool) (x y : Bool) : accB u 0 l T x y = (x, y) := by
 cases l <;> cases T <;> rfl
theorem Z32 (u : ByteArray) (n : Nat) (c : Cl) (r : List Cl) (t : Bool) (T : List Bool) (x y : Bool) : accB u (n + 1) (c :: r) (t :: T) x y = (match decide (c.2.2.1 = u) with
  | true => accB u n r T (x || t) (y || !t)
  | false => accB u n r T x y) := rfl
theorem Z85 (u : ByteArray) : ∀ (n : Nat) (l : List Cl) (T : List Bool) (x y : Bool) (h1 : n < l.length) (h2 : n < T.length), accB u (n + 1) l T x y = (match decide (l[n].2.2.1 = u) with
  | true => ((accB u n l T x y).1 || T[n], (accB u n l T x y).2 || !T[n])
  | false => accB u n l T x y)
 | n, [], _, _, _, h, _ => by simp at h
 | n, c :: r, [], _, _, _, h => by simp at h
 | 0, c :: r, t :: T, x, y, _, _ => by
  rw [Z32, Z2g]
  show _ = (match decide (c.2.2.1 = u) with | true => (x || t, y || !t) | false => (x, y))
  cases decide (c.2.2.1 = u) with
  | true => exact Z2g u r T _ _
  | false => exact Z2g u r T _ _
 | n + 1, c :: r, t :: T, x, y, h1, h2 => by
  have k1 : n < r.length := by simpa using h1
  have k2 : n < T.length := by simpa using h2
  rw [Z32, Z32]
  cases hc : decide (c.2.2.1 = u) with
  | true => exact Z85 u n r T _ _ k1 k2
  | false => exact Z85 u n r T _ _ k1 k2
theorem Z65 (u : ByteArray) : ∀ (n : Nat) (l : List Cl) (T T' : List Bool) (x y : Bool), T.length = T'.length → T.take n = T'.take n → accB u n l T x y = accB u n l T' x y
 | 0, l, T, T', x, y, _, _ => by rw [Z2g, Z2g]
 | n + 1, [], T, T', x, y, _, _ => by simp [accB]
 | n + 1, c :: r, [], T', x, y, h, _ => by
  have : T' = [] := List.eq_nil_of_length_eq_zero (by simpa using h.symm)
  rw [this]
 | n + 1, c :: r, t :: T, [], x, y, h, _ => by simp at h
 | n + 1, c :: r, t :: T, t' :: T', x, y, h, h2 => by
  rw [List.take_succ_cons, List.take_succ_cons] at h2
  injection h2 with h3 h4
  subst h3
  rw [Z32, Z32, Z65 u n r T T' _ _ (by simpa using h) h4, Z65 u n r T T' _ _ (by simpa using h) h4]
theorem usX1 {l : List Cl} (hl : l.length ≤ 1000) {S : Sta} (hS : S.2.2.1.length = l.length) {i : Nat} (hi : i ≤ l.length) (u : ByteArray) : ∀ (n k : Nat) (x y : Bool), i - k = n → k ≤ i → Qb.l1 l S u (i : Int) x y (k : Int) = some (accB u (i - k) (l.drop k) (S.2.2.1.drop k) x y) := by
 intro n
 induction n with
 | zero =>
  intro k x y hk hki
  refine Z3 ?_
  simp only [Qb.s1, Z5]
  rw [if_neg (by omega), hk, Z2g]
 | succ n ih =>
  intro k x y hk hki
  have hlt : k < l.length := by omega
  have hltT : k < S.2.2.1.length := by omega
  have e : ((k : Int) + 1) = ((k + 1 : Nat) : Int) := by omega
  have gT : rd false S.2.2.1 (k : Int) = S.2.2.1[k] := by simp [rd, List.getD, List.getElem?_eq_getElem hltT]
  have en : i - k = (i - (k + 1)) + 1 := by omega
  rw [List.drop_eq_getElem_cons hlt, List.drop_eq_getElem_cons hltT, en, Z32]
  have hc : ∀ {β : Type} (a : Option β), ck (0 ≤ (k : Int) ∧ (k : Int) < ((List.length S.2.2.1 : Nat) : Int)) a = a := fun a => Z1 ⟨by omega, by omega⟩
  have hi2 : ∀ {β : Type} (a : Option β), ck (InR ((k : Int) + 1)) a = a := fun a => Zk (by omega) (by omega)
  have key : Qb.s1 l S u (i : Int) x y (k : Int) = some (.inl (match decide (l[k].2.2.1 = u) with
    | true => ((x || S.2.2.1[k]), (y || !S.2.2.1[k]), ((k + 1 : Nat) : Int))
    | false => (x, y, ((k + 1 : Nat) : Int)))) := by
   simp only [Qb.s1]
   rw [decide_eq_true (by omega), cb_t, Z1 ⟨by omega, by omega⟩]
   simp only [hc, hi2, Z12 hlt, gT]
   simp only [e]
   cases decide (l[k].2.2.1 = u) <;> cases x <;> cases y <;> cases S.2.2.1[k] <;> rfl
  cases hd : decide (l[k].2.2.1 = u) with
  | true =>
   rw [hd] at key
   exact (Z4 key).trans (ih (k + 1) _ _ (by omega) (by omega))
  | false =>
   rw [hd] at key
   exact (Z4 key).trans (ih (k + 1) _ _ (by omega) (by omega))
def Bears (l : List Cl) (T : List Bool) (n : Nat) (bad good : MB) : Prop := ∀ u, accB u n l T false false = (Option.getD (mget u bad) false, Option.getD (mget u good) false)
theorem usX0 {l : List Cl} (hl : l.length ≤ 1000) {S : Sta} (hS : S.2.2.1.length = l.length) {i : Nat} (hi : i ≤ l.length) {bad good : MB} (hb : Bears l S.2.2.1 i bad good) {us : List ByteArray} (hu : us.length ≤ 1000) : ∀ (n k : Nat), us.length - k = n →
  ∃ q, Qb.l0 l (i : Int) S us (us.length : Int) (k : Int) = some q ∧ ((q = .inl true ∧ Z4v (us.drop k) bad good = true) ∨ (q = .inr () ∧ Z4v (us.drop k) bad good = false)) := by
 intro n
 induction n with
 | zero =>
  intro k hk
  refine ⟨.inr (), Z3 ?_, .inr ⟨rfl, ?_⟩⟩
  ·simp only [Qb.s0, Z5]
   rw [if_neg (by omega)]
  ·rw [List.drop_eq_nil_of_le (by omega)]; rfl
 | succ n ih =>
  intro k hk
  have hlt : k < us.length := by omega
  have e : ((k : Int) + 1) = ((k + 1 : Nat) : Int) := by omega
  obtain ⟨q, hq, h2⟩ := ih (k + 1) (by omega)
  have hp := usX1 hl hS hi us[k] _ 0 false false rfl (Nat.zero_le _)
  rw [show ((0 : Nat) : Int) = 0 from rfl, List.drop_zero, List.drop_zero, Nat.sub_zero, hb us[k]] at hp
  rw [List.drop_eq_getElem_cons hlt]
  have e2 : Z4v (us[k] :: us.drop (k + 1)) bad good = ((Option.getD (mget us[k] bad) false && !Option.getD (mget us[k] good) false) || Z4v (us.drop (k + 1)) bad good) := rfl
  rw [e2]
  have key : Qb.s0 l (i : Int) S us (us.length : Int) (k : Int) = (match Option.getD (mget us[k] bad) false && !Option.getD (mget us[k] good) false with
    | true => some (.inr (.inl true))
    | false => some (.inl ((k + 1 : Nat) : Int))) := by
   simp only [Qb.s0]
   rw [decide_eq_true (by omega), cb_t, Z1 ⟨by omega, by omega⟩, Z12 hlt, hp, ob_s, Zk (by omega) (by omega), e]
   cases Option.getD (mget us[k] bad) false <;> cases Option.getD (mget us[k] good) false <;> rfl
  cases hc : (Option.getD (mget us[k] bad) false && !Option.getD (mget us[k] good) false) with
  | true =>
   rw [hc] at key
   exact ⟨_, Z3 key, .inl ⟨rfl, rfl⟩⟩
  | false =>
   rw [hc] at key
   exact ⟨q, (Z4 key).trans hq, h2⟩
theorem Zhh {l : List Cl} (hl : l.length ≤ 1000) {S : Sta} (hS : S.2.2.1.length = l.length) {i : Nat} (hi : i < l.length) {bad good : MB} (hb : Bears l S.2.2.1 i bad good) (hu : l[i].2.2.2.2.2.1.length ≤ 1000) : Qb.f S l (i : Int) = some (Z4v l[i].2.2.2.2.2.1 bad good) := by
 unfold Qb.f
 rw [Z1 ⟨by omega, by omega⟩, Z12 hi]
 obtain ⟨q, h, h2⟩ := usX0 hl hS (by omega : i ≤ l.length) hb hu _ 0 rfl
 rw [show ((0 : Nat) : Int) = 0 from rfl] at h
 rw [List.drop_zero] at h2
 simp only [h, ob_s]
 rcases h2 with ⟨rfl, h2⟩ | ⟨rfl, h2⟩
 ·rw [h2]; rfl
 ·rw [h2]; rfl
theorem Bears.step {l : List Cl} {T : List Bool} {n : Nat} {bad good : MB} (h : Bears l T n bad good) (h1 : n < l.length) (h2 : n < T.length) (b : Bool) : Bears l (T.set n b) (n + 1) (match b with | true => mset l[n].2.2.1 true bad | false => bad) (match b with | true => good | false => mset l[n].2.2.1 true good) := fun u => by
 have hs : n < (T.set n b).length := by simpa using h2
 rw [Z85 u n l (T.set n b) false false h1 hs, Z65 u n l (T.set n b) T false false (by simp) (List.take_set_of_le (Nat.le_refl n)), h u, List.getElem_set_self]
 by_cases hu : l[n].2.2.1 = u
 ·rw [decide_eq_true hu]
  cases b with
  | true =>
   show _ = (Option.getD (mget u (mset l[n].2.2.1 true bad)) false, _)
   rw [Z1i, if_pos hu.symm]
   simp
  | false =>
   show _ = (_, Option.getD (mget u (mset l[n].2.2.1 true good)) false)
   rw [Z1i, if_pos hu.symm]
   simp
 ·rw [decide_eq_false hu]
  cases b with
  | true =>
   show _ = (Option.getD (mget u (mset l[n].2.2.1 true bad)) false, _)
   rw [Z1i, if_neg (fun e => hu e.symm)]
  | false =>
   show _ = (_, Option.getD (mget u (mset l[n].2.2.1 true good)) false)
   rw [Z1i, if_neg (fun e => hu e.symm)]
theorem stX2 {l : List Cl} (hl : l.length ≤ 1000) (hu : ∀ c ∈ l, c.2.2.2.2.2.1.length ≤ 1000) {a w : List Bool} (ha : a.length = l.length) (hw : w.length = l.length) {M : MB} (hM : SusW l (a, (w, M))) (hG : SGood M) (o5 o6 : List ByteArray) : ∀ (n k : Nat) (t : List Bool) (bad good : MB), l.length - k = n → k ≤ l.length → t.length = l.length → Bears l t k bad good →
  Q1.l2 l (l.length : Int) (k : Int) a w t o5 o6 = some (a, w, t.take k ++ Z3h (Z17 M 0 l a w (Z31 (-1 : Int) M []) []) k (l.drop k) (a.drop k) (w.drop k) bad good, o5, o6) := by
 intro n
 induction n with
 | zero =>
  intro k t bad good hk hkl ht hb
  refine Z3 ?_
  simp only [Q1.s2, Z5]
  rw [if_neg (by omega), List.drop_eq_nil_of_le (by omega), List.take_of_length_le (by omega)]
  simp [Z3h]
 | succ n ih =>
  intro k t bad good hk hkl ht hb
  have hlt : k < l.length := by omega
  have hlta : k < a.length := by omega
  have hltw : k < w.length := by omega
  have e : ((k : Int) + 1) = ((k + 1 : Nat) : Int) := by omega
  have gA : rd false a (k : Int) = a[k] := by simp [rd, List.getD, List.getElem?_eq_getElem hlta]
  have gW : List.getD w k false = w[k] := by simp [List.getD, List.getElem?_eq_getElem hltw]
  have h1 := Zcx hl (S := (a, (w, (t, o6)))) ha hw hM hG hlt
  have h2 := Zhh hl (S := (a, (w, (t, o6)))) ht hlt hb (hu _ (List.getElem_mem hlt))
  rw [gA] at h1
  rw [List.drop_eq_getElem_cons hlt, List.drop_eq_getElem_cons hlta, List.drop_eq_getElem_cons hltw]
  have key : Q1.s2 l (l.length : Int) (k : Int) a w t o5 o6 = some (.inl (((k + 1 : Nat) : Int), a, w, t.set k (Z28 (Z17 M 0 l a w (Z31 (-1 : Int) M []) []) k l[k] a[k] w[k] bad good), o5, o6)) := by
   simp only [Q1.s2]
   rw [decide_eq_true (by omega), cb_t, Z1 ⟨by omega, by omega⟩, Int.toNat_natCast, Z1 (by omega), h1, h2]
   have hc : ∀ {β : Type} (x : Option β), ck (0 ≤ (k : Int) ∧ (k : Int) < ((List.length t : Nat) : Int)) x = x := fun x => Z1 ⟨by omega, by omega⟩
   have hc2 : ∀ {β : Type} (x : Option β), ck (k < List.length t) x = x := fun x => Z1 (by omega)
   have hi2 : ∀ {β : Type} (x : Option β), ck (InR ((k : Int) + 1)) x = x := fun x => Zk (by omega) (by omega)
   simp only [hc, hc2, hi2, ob_s, gW]
   simp only [e]
   unfold Z28
   cases w[k] with
   | true => rfl
   | false =>
    cases (Option.isSome (mget l[k].2.2.2.1 (Z17 M 0 l a w (Z31 (-1 : Int) M []) [])) && (!a[k] && decide (Option.getD (mget l[k].2.2.2.1 (Z17 M 0 l a w (Z31 (-1 : Int) M []) [])) 0 < (k : Int)))) with
    | true => rfl
    | false => rfl
  have hlen : ∀ b : Bool, (t.set k b).length = l.length := fun b => by simp [ht]
  have htk : ∀ b : Bool, (t.set k b).take (k + 1) = t.take k ++ [b] := fun b => by
   rw [List.take_add_one, List.take_set_of_le (Nat.le_refl k), List.getElem?_set_self (by omega)]
   rfl
  have hst := hb.step hlt (by omega) (Z28 (Z17 M 0 l a w (Z31 (-1 : Int) M []) []) k l[k] a[k] w[k] bad good)
  rw [Z35]
  cases hv : Z28 (Z17 M 0 l a w (Z31 (-1 : Int) M []) []) k l[k] a[k] w[k] bad good with
  | true =>
   rw [hv] at key hst
   refine ((Z4 key).trans (ih (k + 1) _ _ _ (by omega) (by omega) (hlen _) hst)).trans ?_
   rw [htk]
   simp
  | false =>
   rw [hv] at key hst
   refine ((Z4 key).trans (ih (k + 1) _ _ _ (by omega) (by omega) (hlen _) hst)).trans ?_
   rw [htk]
   simp
theorem Z5r {l : List Cl} {m : List Au} (hA : OkA l m) : Q1.f l m = some ((fcs0 l m).1, ((fcs0 l m).2.1, (Z4c l m, Zs (Zx (wrs l (fcs0 l m).2.1))))) := by
 have hl := hA.log.len
 obtain ⟨ha, hw⟩ := Z47 l m
 have h0 := stLoop0 (l := l) hA.len hA.num (List.replicate l.length false) [] _ 0 (List.replicate l.length false) (List.replicate l.length false) [] rfl (by simp) (by simp)
 rw [show ((0 : Nat) : Int) = 0 from rfl, List.drop_zero] at h0
 have h1 := stLoop1 hl (a := (fcs0 l m).1) (t := List.replicate l.length false) hw [] _ 0 [] rfl (by simp)
 rw [show ((0 : Nat) : Int) = 0 from rfl, List.drop_zero, List.drop_zero, List.nil_append] at h1
 generalize hX : wrs l (fcs0 l m).2.1 = X at h1
 have hXl : X.length ≤ 1000000000 := by rw [← hX]; have := wrs_len l (fcs0 l m).2.1; omega
 have r1 := run47 hXl
 have r2 := run48 (xs := Zx X) (by rw [Z2t]; exact hXl)
 have r3 : List.take (List.length (Zs (Zx X))) (Zs (Zx X) ++ List.replicate ((Zx X).length - (Zs (Zx X)).length) ByteArray.empty) = Zs (Zx X) := List.take_left' rfl
 have h2 := stX2 hl hA.few ha hw (susW hA) (sgood l m).1 [] (Zs (Zx X)) _ 0 (List.replicate l.length false) [] [] rfl (Nat.zero_le _) (by simp) (fun u => by rw [Z2g]; rfl)
 rw [show ((0 : Nat) : Int) = 0 from rfl, List.drop_zero, List.drop_zero, List.drop_zero, List.take_zero, List.nil_append] at h2
 have hck : ∀ {β : Type} (a : Option β), ck (0 ≤ ((List.length l : Nat) : Int) ∧ ((List.length l : Nat) : Int) * (1 : Int) ≤ 140737488355328) a = a := fun a => Z1 ⟨by omega, by omega⟩
 have hs1 : ∀ {β γ : Type} (x : γ) (a : Option β), ck (Option.isSome (some x) = true) a = a := fun x a => Z1 rfl
 rw [show fcs l m (List.replicate l.length false, List.replicate l.length false, []) = fcs0 l m from rfl] at h0
 unfold Q1.f
 simp only [mix_eq, hck, Int.toNat_natCast, h0, ob_s, h1, r1, hs1, Option.getD_some, r2, r3, h2, Z81]
 first | done | rfl
end Go.Proofs.YtahlodpolggeiaaGreatDoor
set_option linter.unusedVariables false
set_option linter.unusedSimpArgs false
namespace Go.Proofs.YtahlodpolggeiaaGreatDoor
open Go Go.Lib Go.Proofs.YtahlodpolggeiaaGreatDoor.Eng
abbrev MS : Type := List (ByteArray × Sc)
abbrev SC0 : Sc := (ByteArray.empty, ((0 : Int), (0 : Int)))
def one (b : Bool) : Int := match b with | true => 1 | false => 0
def cntB (u : ByteArray) : List Cl → List Bool → Int
 | c :: r, a :: A => (match decide (c.2.2.2.1 = u) with
  | true => one a + cntB u r A
  | false => cntB u r A)
 | _, _ => 0
def upS (M : MS) (w : ByteArray) (a b : Bool) : MS := mset w (w, ((Option.getD (mget w M) SC0).2.1 + one a, (Option.getD (mget w M) SC0).2.2 + one b)) M
def scL : List Cl → List Bool → List Bool → MS → MS
 | c :: r, a :: A, b :: W, M => scL r A W (upS M c.2.2.2.1 a b)
 | _, _, _, M => M
def Few (M : MS) (k : Nat) : Prop := ∀ u, 0 ≤ (Option.getD (mget u M) SC0).2.1 ∧ (Option.getD (mget u M) SC0).2.1 ≤ (k : Int) ∧ 0 ≤ (Option.getD (mget u M) SC0).2.2 ∧ (Option.getD (mget u M) SC0).2.2 ≤ (k : Int)
theorem Zdg (b : Bool) : 0 ≤ one b ∧ one b ≤ 1 := by cases b <;> decide
theorem Few.step {M : MS} {k : Nat} (h : Few M k) (w : ByteArray) (a b : Bool) : Few (upS M w a b) (k + 1) := fun u => by
 have h1 := h u
 have h2 := h w
 have ha := Zdg a
 have hb := Zdg b
 unfold upS
 rw [Z1i]
 by_cases hu : u = w
 ·rw [if_pos hu]
  simp only [Option.getD_some]
  omega
 ·rw [if_neg hu]
  omega
theorem scLoop {l : List Cl} (hl : l.length ≤ 1000) {A W : List Bool} (hA : A.length = l.length) (hW : W.length = l.length) (S : MB) : ∀ (n k : Nat) (M : MS), l.length - k = n → Few M k →
  Ql.l0 (A, (W, S)) l (l.length : Int) (k : Int) M = some (scL (l.drop k) (A.drop k) (W.drop k) M) := by
 intro n
 induction n with
 | zero =>
  intro k M hk hF
  refine Z3 ?_
  simp only [Ql.s0, Z5]
  rw [if_neg (by omega), List.drop_eq_nil_of_le (by omega)]
  rfl
 | succ n ih =>
  intro k M hk hF
  have hlt : k < l.length := by omega
  have hltA : k < A.length := by omega
  have hltW : k < W.length := by omega
  have e : ((k : Int) + 1) = ((k + 1 : Nat) : Int) := by omega
  have gA : rd false A (k : Int) = A[k] := by simp [rd, List.getD, List.getElem?_eq_getElem hltA]
  have gW : rd false W (k : Int) = W[k] := by simp [rd, List.getD, List.getElem?_eq_getElem hltW]
  have c1 : ∀ {β : Type} (x : Option β), ck (0 ≤ (k : Int) ∧ (k : Int) < ((List.length W : Nat) : Int)) x = x := fun x => Z1 ⟨by omega, by omega⟩
  have c2 : ∀ {β : Type} (x : Option β), ck (0 ≤ (k : Int) ∧ (k : Int) < ((List.length A : Nat) : Int)) x = x := fun x => Z1 ⟨by omega, by omega⟩
  have c3 : ∀ {β : Type} (x : Option β), ck (InR (((k + 1 : Nat) : Int))) x = x := fun x => Zk (by omega) (by omega)
  have hf : 0 ≤ (Option.getD (mget l[k].2.2.2.1 M) (ByteArray.empty, ((0 : Int), (0 : Int)))).2.1 ∧ (Option.getD (mget l[k].2.2.2.1 M) (ByteArray.empty, ((0 : Int), (0 : Int)))).2.1 ≤ (k : Int) ∧ 0 ≤ (Option.getD (mget l[k].2.2.2.1 M) (ByteArray.empty, ((0 : Int), (0 : Int)))).2.2 ∧ (Option.getD (mget l[k].2.2.2.1 M) (ByteArray.empty, ((0 : Int), (0 : Int)))).2.2 ≤ (k : Int) := hF l[k].2.2.2.1
  have c4 : ∀ {β : Type} (x : Option β), ck (InR ((Option.getD (mget l[k].2.2.2.1 M) (ByteArray.empty, ((0 : Int), (0 : Int)))).2.1 + (1 : Int))) x = x := fun x => Zk (by have := hf.1; omega) (by have := hf.2.1; omega)
  have c5 : ∀ {β : Type} (x : Option β), ck (InR ((Option.getD (mget l[k].2.2.2.1 M) (ByteArray.empty, ((0 : Int), (0 : Int)))).2.2 + (1 : Int))) x = x := fun x => Zk (by have := hf.2.2.1; omega) (by have := hf.2.2.2; omega)
  rw [List.drop_eq_getElem_cons hlt, List.drop_eq_getElem_cons hltA, List.drop_eq_getElem_cons hltW]
  refine (Z4 ?_).trans (ih (k + 1) (upS M l[k].2.2.2.1 A[k] W[k]) (by omega) (hF.step _ _ _))
  simp only [Ql.s0]
  rw [decide_eq_true (by omega), cb_t, Z1 ⟨by omega, by omega⟩]
  simp only [Z12 hlt, c1, gW, c2, gA, e, c3, c4, c5]
  unfold upS
  cases A[k] <;> cases W[k] <;> simp [one, cb_t, cb_f]
theorem scL_up : ∀ (l : List Cl) (A W : List Bool) (M : MS), MUp M → MUp (scL l A W M)
 | [], _, _, _, h => by simpa [scL] using h
 | c :: r, [], _, _, h => by simpa [scL] using h
 | c :: r, a :: A, [], _, h => by simpa [scL] using h
 | c :: r, a :: A, b :: W, M, h => scL_up r A W _ (Zcr h)
theorem Z9e (u : ByteArray) : ∀ (l : List Cl) (A W : List Bool) (M : MS), A.length = l.length → W.length = l.length →
  ((u ∈ l.map fun c => c.2.2.2.1) → mget u (scL l A W M) = some (u, ((Option.getD (mget u M) SC0).2.1 + cntB u l A, (Option.getD (mget u M) SC0).2.2 + cntB u l W))) ∧
  ((u ∉ l.map fun c => c.2.2.2.1) → mget u (scL l A W M) = mget u M ∧ cntB u l A = 0 ∧ cntB u l W = 0)
 | [], A, W, M, _, _ => ⟨fun h => by simp at h, fun _ => ⟨by simp [scL], by simp [cntB], by simp [cntB]⟩⟩
 | c :: r, [], W, M, h, _ => by simp at h
 | c :: r, a :: A, [], M, _, h => by simp at h
 | c :: r, a :: A, b :: W, M, h1, h2 => by
  obtain ⟨i1, i2⟩ := Z9e u r A W (upS M c.2.2.2.1 a b) (by simpa using h1) (by simpa using h2)
  have eS : scL (c :: r) (a :: A) (b :: W) M = scL r A W (upS M c.2.2.2.1 a b) := rfl
  have eA : cntB u (c :: r) (a :: A) = (match decide (c.2.2.2.1 = u) with | true => one a + cntB u r A | false => cntB u r A) := rfl
  have eW : cntB u (c :: r) (b :: W) = (match decide (c.2.2.2.1 = u) with | true => one b + cntB u r W | false => cntB u r W) := rfl
  have eU : mget u (upS M c.2.2.2.1 a b) = if u = c.2.2.2.1 then some (c.2.2.2.1, ((Option.getD (mget c.2.2.2.1 M) SC0).2.1 + one a, (Option.getD (mget c.2.2.2.1 M) SC0).2.2 + one b)) else mget u M := Z1i _ _ _ _
  rw [eS, eA, eW]
  by_cases hu : c.2.2.2.1 = u
  ·subst hu
   rw [decide_eq_true (show c.2.2.2.1 = c.2.2.2.1 from rfl)]
   refine ⟨fun _ => ?_, fun h => absurd (by simp) h⟩
   rw [if_pos rfl] at eU
   by_cases hr : c.2.2.2.1 ∈ r.map fun c => c.2.2.2.1
   ·rw [i1 hr, eU]
    simp only [Option.getD_some, Int.add_assoc]
   ·obtain ⟨j1, j2, j3⟩ := i2 hr
    rw [j1, eU, j2, j3]
    simp only [Int.add_zero]
  ·rw [decide_eq_false hu]
   rw [if_neg (fun e => hu e.symm)] at eU
   rw [eU] at i1 i2
   refine ⟨fun h => ?_, fun h => ?_⟩
   ·refine i1 ?_
    rcases List.mem_cons.1 h with h | h
    ·exact absurd h.symm hu
    ·exact h
   ·exact i2 fun h3 => h (List.mem_cons_of_mem _ h3)
theorem outLoop {M : MS} {ks : List ByteArray} (hk : ks.length ≤ 1000) : ∀ (n k : Nat) (o : List Sc), ks.length - k = n → o.length ≤ k → Ql.l1 M ks (ks.length : Int) (k : Int) o = some (o ++ (ks.drop k).map fun w => Option.getD (mget w M) SC0) := by
 intro n
 induction n with
 | zero =>
  intro k o hn ho
  refine Z3 ?_
  simp only [Ql.s1, Z5]
  rw [if_neg (by omega), List.drop_eq_nil_of_le (by omega)]
  simp
 | succ n ih =>
  intro k o hn ho
  have hlt : k < ks.length := by omega
  have e : ((k : Int) + 1) = ((k + 1 : Nat) : Int) := by omega
  rw [List.drop_eq_getElem_cons hlt]
  refine (Z4 (x' := (((k + 1 : Nat) : Int), o ++ [Option.getD (mget ks[k] M) SC0])) ?_).trans ((ih (k + 1) _ (by omega) (by simp; omega)).trans (by rw [List.append_assoc]; rfl))
  simp only [Ql.s1]
  rw [decide_eq_true (by omega), cb_t, Z1 ⟨by omega, by omega⟩]
  simp only [Z12 hlt]
  rw [Z1 (by simp only [List.length_cons, List.length_nil]; omega), Zk (by omega) (by omega), e]
noncomputable def Z7b (l : List Cl) (A W : List Bool) : List Sc := (Zs (Zx (l.map fun c => c.2.2.2.1))).map fun w => (w, (cntB w l A, cntB w l W))
theorem Zhe {l : List Cl} {m : List Au} (hA : OkA l m) (h0 : Qe.f l m = some 0) : Ql.f l m = some (Z7b l (fcs0 l m).1 (fcs0 l m).2.1, 0) := by
 have hl := hA.log.len
 obtain ⟨n1, n2⟩ := Z47 l m
 have hf : Qk.f l m = some ((fcs0 l m).1, ((fcs0 l m).2.1, (fcs0 l m).2.2)) := Z9y hA
 have h1 := scLoop hl n1 n2 (fcs0 l m).2.2 _ 0 [] rfl (fun u => by show 0 ≤ (0 : Int) ∧ (0 : Int) ≤ ((0 : Nat) : Int) ∧ 0 ≤ (0 : Int) ∧ (0 : Int) ≤ ((0 : Nat) : Int); decide)
 rw [show ((0 : Nat) : Int) = 0 from rfl, List.drop_zero, List.drop_zero, List.drop_zero] at h1
 have hup : MUp (scL l (fcs0 l m).1 (fcs0 l m).2.1 []) := scL_up l _ _ [] List.Pairwise.nil
 have hkey : ∀ x, x ∈ (scL l (fcs0 l m).1 (fcs0 l m).2.1 []).map (fun p => p.1) ↔ x ∈ l.map fun c => c.2.2.2.1 := fun x => by
  constructor
  ·intro hx
   obtain ⟨p, hp, rfl⟩ := List.mem_map.1 hx
   have h3 : mget p.1 (scL l (fcs0 l m).1 (fcs0 l m).2.1 []) = some p.2 := (mgetA_mem (k := p.1) hup.nodup p.2).2 hp
   refine Classical.byContradiction fun hn => ?_
   have h4 := ((Z9e p.1 l _ _ [] n1 n2).2 hn).1
   rw [h3] at h4
   cases h4
  ·intro hx
   have h3 := (Z9e x l _ _ [] n1 n2).1 hx
   exact List.mem_map.2 ⟨_, (mgetA_mem (k := x) hup.nodup _).1 h3, rfl⟩
 have hks : (scL l (fcs0 l m).1 (fcs0 l m).2.1 []).map (fun p => p.1) = Zs (Zx (l.map fun c => c.2.2.2.1)) := by
  have g1 : ((scL l (fcs0 l m).1 (fcs0 l m).2.1 []).map (fun p => p.1)).Pairwise fun x y => klt x y = true := by rw [List.pairwise_map]; exact hup
  have g2 := Z79 (l.map fun c => c.2.2.2.1)
  have nd : ∀ {l : List ByteArray}, l.Pairwise (fun x y => klt x y = true) → l.Nodup := fun h => h.imp fun {p q} hpq e => by subst e; rw [Z3r] at hpq; cases hpq
  refine List.Perm.eq_of_pairwise (fun p q _ _ h1 h2 => ?_) g1 g2 ((List.perm_ext_iff_of_nodup (nd g1) (nd g2)).2 fun x => (hkey x).trans (Z9k _ x).symm)
  have := Z3q h1 h2
  rw [Z3r] at this; cases this
 have hcl : (Zs (Zx (l.map fun c => c.2.2.2.1))).length ≤ l.length := by
  have := Z5j (Zx (l.map fun c => c.2.2.2.1))
  rw [Z2t, List.length_map] at this
  exact this
 have hfit : KeysFit (scL l (fcs0 l m).1 (fcs0 l m).2.1 []) := by
  refine ⟨?_, fun p hp => ?_⟩
  ·have : (scL l (fcs0 l m).1 (fcs0 l m).2.1 []).length = ((scL l (fcs0 l m).1 (fcs0 l m).2.1 []).map (fun p => p.1)).length := by simp
   rw [this, hks]; omega
  ·obtain ⟨c, hc, e⟩ := List.mem_map.1 ((hkey p.1).1 (List.mem_map_of_mem hp))
   rw [← e]
   have := Z8i (hA.log.ok _ hc).2.writer
   exact Nat.le_trans this (by decide)
 have e1 : Q15.f (scL l (fcs0 l m).1 (fcs0 l m).2.1 []) = some (scL l (fcs0 l m).1 (fcs0 l m).2.1 []) := rfl
 have e2 : Q29.f (scL l (fcs0 l m).1 (fcs0 l m).2.1 []) = some (Zs (Zx (l.map fun c => c.2.2.2.1))) := by
  rw [← hks]; exact Z1 hfit
 have h2 := outLoop (M := scL l (fcs0 l m).1 (fcs0 l m).2.1 []) (ks := Zs (Zx (l.map fun c => c.2.2.2.1))) (by omega) _ 0 [] rfl (by simp)
 rw [show ((0 : Nat) : Int) = 0 from rfl, List.drop_zero, List.nil_append] at h2
 have h3 : ((Zs (Zx (l.map fun c => c.2.2.2.1))).map fun w => Option.getD (mget w (scL l (fcs0 l m).1 (fcs0 l m).2.1 [])) SC0) = Z7b l (fcs0 l m).1 (fcs0 l m).2.1 := by
  unfold Z7b
  refine List.map_congr_left fun w hw => ?_
  rw [(Z9e w l _ _ [] n1 n2).1 ((Z9k _ w).1 hw)]
  show (w, ((0 : Int) + _, (0 : Int) + _)) = _
  rw [Int.zero_add, Int.zero_add]
 rw [h3] at h2
 unfold Ql.f
 simp only [h0, ob_s, decide_true, Bool.not_true, cb_f, hf, h1, e1, e2, h2]
end Go.Proofs.YtahlodpolggeiaaGreatDoor
set_option linter.unusedVariables false
set_option linter.unusedSimpArgs false
namespace Go.Proofs.YtahlodpolggeiaaGreatDoor
open Go Go.Lib Go.Proofs.YtahlodpolggeiaaGreatDoor.Eng
theorem Zec {l : List Cl} (hl : l.length ≤ 1000) : ∀ (n k : Nat) (o : List ByteArray), l.length - k = n → o.length ≤ k → Q9.l0 l (l.length : Int) (k : Int) o = some (o ++ (l.drop k).map fun c => c.2.2.2.1) := by
 intro n
 induction n with
 | zero =>
  intro k o hn ho
  refine Z3 ?_
  simp only [Q9.s0, Z5]
  rw [if_neg (by omega), List.drop_eq_nil_of_le (by omega)]
  simp
 | succ n ih =>
  intro k o hn ho
  have hlt : k < l.length := by omega
  have e : ((k : Int) + 1) = ((k + 1 : Nat) : Int) := by omega
  rw [List.drop_eq_getElem_cons hlt]
  refine (Z4 (x' := (((k + 1 : Nat) : Int), o ++ [l[k].2.2.2.1])) ?_).trans ((ih (k + 1) _ (by omega) (by simp; omega)).trans (by rw [List.append_assoc]; rfl))
  simp only [Q9.s0]
  rw [decide_eq_true (by omega), cb_t, Z1 ⟨by omega, by omega⟩]
  simp only [Z12 hlt]
  rw [Z1 (by simp only [List.length_cons, List.length_nil]; omega), Zk (by omega) (by omega), e]
theorem cntLoop {l : List Cl} (hl : l.length ≤ 1000) {S : Sta} (hA : S.1.length = l.length) (hW : S.2.1.length = l.length) (w : ByteArray) (o1 : List ByteArray) (o2 : List Sc) : ∀ (n k : Nat) (x y : Int), l.length - k = n → 0 ≤ x → x ≤ (k : Int) → 0 ≤ y → y ≤ (k : Int) →
  Q9.l2 S w l (l.length : Int) (k : Int) o1 o2 w x y = some (o1, o2, w, x + cntB w (l.drop k) (S.1.drop k), y + cntB w (l.drop k) (S.2.1.drop k)) := by
 intro n
 induction n with
 | zero =>
  intro k x y hk _ _ _ _
  refine Z3 ?_
  simp only [Q9.s2, Z5]
  rw [if_neg (by omega), List.drop_eq_nil_of_le (by omega : l.length ≤ k)]
  simp [cntB]
 | succ n ih =>
  intro k x y hk x0 x1 y0 y1
  have hlt : k < l.length := by omega
  have hltA : k < S.1.length := by omega
  have hltW : k < S.2.1.length := by omega
  have e : ((k : Int) + 1) = ((k + 1 : Nat) : Int) := by omega
  have gA : rd false S.1 (k : Int) = S.1[k] := by simp [rd, List.getD, List.getElem?_eq_getElem hltA]
  have gW : rd false S.2.1 (k : Int) = S.2.1[k] := by simp [rd, List.getD, List.getElem?_eq_getElem hltW]
  have c1 : ∀ {β : Type} (a : Option β), ck (0 ≤ (k : Int) ∧ (k : Int) < ((List.length S.2.1 : Nat) : Int)) a = a := fun a => Z1 ⟨by omega, by omega⟩
  have c2 : ∀ {β : Type} (a : Option β), ck (0 ≤ (k : Int) ∧ (k : Int) < ((List.length S.1 : Nat) : Int)) a = a := fun a => Z1 ⟨by omega, by omega⟩
  have c3 : ∀ {β : Type} (a : Option β), ck (InR (((k + 1 : Nat) : Int))) a = a := fun a => Zk (by omega) (by omega)
  have c4 : ∀ {β : Type} (a : Option β), ck (InR (x + (1 : Int))) a = a := fun a => Zk (by omega) (by omega)
  have c5 : ∀ {β : Type} (a : Option β), ck (InR (y + (1 : Int))) a = a := fun a => Zk (by omega) (by omega)
  rw [List.drop_eq_getElem_cons hlt, List.drop_eq_getElem_cons hltA, List.drop_eq_getElem_cons hltW]
  have eA : cntB w (l[k] :: l.drop (k + 1)) (S.1[k] :: S.1.drop (k + 1)) = (match decide (l[k].2.2.2.1 = w) with | true => one S.1[k] + cntB w (l.drop (k + 1)) (S.1.drop (k + 1)) | false => cntB w (l.drop (k + 1)) (S.1.drop (k + 1))) := rfl
  have eW : cntB w (l[k] :: l.drop (k + 1)) (S.2.1[k] :: S.2.1.drop (k + 1)) = (match decide (l[k].2.2.2.1 = w) with | true => one S.2.1[k] + cntB w (l.drop (k + 1)) (S.2.1.drop (k + 1)) | false => cntB w (l.drop (k + 1)) (S.2.1.drop (k + 1))) := rfl
  rw [eA, eW]
  have key : Q9.s2 S w l (l.length : Int) (k : Int) o1 o2 w x y = some (.inl (match decide (l[k].2.2.2.1 = w) with
    | true => (((k + 1 : Nat) : Int), o1, o2, w, x + one S.1[k], y + one S.2.1[k])
    | false => (((k + 1 : Nat) : Int), o1, o2, w, x, y))) := by
   simp only [Q9.s2]
   rw [decide_eq_true (by omega), cb_t, Z1 ⟨by omega, by omega⟩]
   simp only [Z12 hlt, c1, gW, c2, gA, e, c3, c4, c5]
   cases decide (l[k].2.2.2.1 = w) with
   | false => rfl
   | true => cases S.1[k] <;> cases S.2.1[k] <;> simp [one, cb_t, cb_f]
  have ha := Zdg S.1[k]
  have hb := Zdg S.2.1[k]
  cases hd : decide (l[k].2.2.2.1 = w) with
  | true =>
   rw [hd] at key
   refine ((Z4 key).trans (ih (k + 1) _ _ (by omega) (by omega) (by omega) (by omega) (by omega))).trans ?_
   simp only [Int.add_assoc]
  | false =>
   rw [hd] at key
   exact (Z4 key).trans (ih (k + 1) _ _ (by omega) (by omega) (by omega) (by omega) (by omega))
theorem Zfe {l : List Cl} (hl : l.length ≤ 1000) {S : Sta} (hA : S.1.length = l.length) (hW : S.2.1.length = l.length) {N : List ByteArray} (hN : N.length ≤ 1000) : ∀ (n k : Nat) (o : List Sc), N.length - k = n → o.length ≤ k →
  Q9.l1 l S (N.length : Int) (k : Int) N o = some (N, o ++ (N.drop k).map fun w => (w, (cntB w l S.1, cntB w l S.2.1))) := by
 intro n
 induction n with
 | zero =>
  intro k o hn ho
  refine Z3 ?_
  simp only [Q9.s1, Z5]
  rw [if_neg (by omega), List.drop_eq_nil_of_le (by omega)]
  simp
 | succ n ih =>
  intro k o hn ho
  have hlt : k < N.length := by omega
  have e : ((k : Int) + 1) = ((k + 1 : Nat) : Int) := by omega
  have gN : List.getD N k ByteArray.empty = N[k] := by simp [List.getD, List.getElem?_eq_getElem hlt]
  have h2 := cntLoop hl hA hW N[k] N o _ 0 0 0 rfl (by omega) (by omega) (by omega) (by omega)
  rw [show ((0 : Nat) : Int) = 0 from rfl, List.drop_zero, List.drop_zero, List.drop_zero, Int.zero_add, Int.zero_add] at h2
  rw [List.drop_eq_getElem_cons hlt]
  refine (Z4 (x' := (((k + 1 : Nat) : Int), N, o ++ [(N[k], (cntB N[k] l S.1, cntB N[k] l S.2.1))])) ?_).trans ((ih (k + 1) _ (by omega) (by simp; omega)).trans (by rw [List.append_assoc]; rfl))
  simp only [Q9.s1]
  rw [decide_eq_true (by omega), cb_t, Z1 ⟨by omega, by omega⟩, Int.toNat_natCast, Z1 hlt, gN]
  simp only [h2, ob_s]
  rw [Z1 (by simp only [List.length_cons, List.length_nil]; omega), Zk (by omega) (by omega), e]
theorem Zes {l : List Cl} {m : List Au} (hA : OkA l m) (h0 : Qj.f l m = some 0) : Q9.f l m = some (Z7b l (fcs0 l m).1 (fcs0 l m).2.1, 0) := by
 have hl := hA.log.len
 obtain ⟨n1, n2⟩ := Z47 l m
 have h1 := Zec hl _ 0 [] rfl (by simp)
 rw [show ((0 : Nat) : Int) = 0 from rfl, List.drop_zero, List.nil_append] at h1
 generalize hX : (l.map fun c => c.2.2.2.1) = X at h1
 have hXl : X.length = l.length := by rw [← hX]; simp
 have r1 := run47 (xs := X) (by omega)
 have r2 := run48 (xs := Zx X) (by rw [Z2t]; omega)
 have r3 : List.take (List.length (Zs (Zx X))) (Zs (Zx X) ++ List.replicate ((Zx X).length - (Zs (Zx X)).length) ByteArray.empty) = Zs (Zx X) := List.take_left' rfl
 have hs1 : ∀ {β γ : Type} (x : γ) (a : Option β), ck (Option.isSome (some x) = true) a = a := fun x a => Z1 rfl
 have hcl : (Zs (Zx X)).length ≤ 1000 := by
  have := Z5j (Zx X)
  rw [Z2t] at this
  omega
 have h2 := Zfe hl (S := ((fcs0 l m).1, ((fcs0 l m).2.1, (Z4c l m, Zs (Zx (wrs l (fcs0 l m).2.1)))))) n1 n2 hcl _ 0 [] rfl (by simp)
 rw [show ((0 : Nat) : Int) = 0 from rfl, List.drop_zero, List.nil_append] at h2
 unfold Q9.f
 simp only [h0, ob_s, decide_true, Bool.not_true, cb_f, Z5r hA, h1, r1, hs1, Option.getD_some, r2, r3, h2]
 unfold Z7b
 rw [hX]
theorem Zgq {l : List Sc} (hl : l.length ≤ 1000000000000) : Q7.f l l = some true := by
 have go : ∀ (n k : Nat), l.length - k = n → Q7.l0 l l (l.length : Int) (k : Int) = some (.inr ()) := by
  intro n
  induction n with
  | zero =>
   intro k hk
   refine Z3 ?_
   simp only [Q7.s0, Z5]
   rw [if_neg (by omega)]
  | succ n ih =>
   intro k hk
   have hlt : k < l.length := by omega
   refine (Z4 ?_).trans (ih (k + 1) (by omega))
   simp only [Q7.s0]
   rw [decide_eq_true (by omega), cb_t, Z1 ⟨by omega, by omega⟩, Z1 ⟨by omega, by omega⟩, Z12 hlt]
   have e1 : eqS l[k].1 l[k].1 = true := Zdp _
   have e2 : ∀ z : Int, eqI z z = true := fun z => by unfold eqI; simp
   simp only [e1, e2, Bool.and_self, Bool.not_true, cb_f]
   rw [Zk (by omega) (by omega)]
   congr 2
 have h := go _ 0 rfl
 rw [show ((0 : Nat) : Int) = 0 from rfl] at h
 unfold Q7.f
 simp only [h, decide_true, Bool.not_true, cb_f, ob_s, Z5]
 first | rfl | simp
theorem law_TT {l : List Cl} (hl : l.length ≤ 100000000000) (hn : ∀ c ∈ l, c.2.2.2.2.2.1.length ≤ 1000000000000) (hr : ∀ c ∈ l, szR c) {m : List Au} (hm : m.length ≤ 1000000000000) : Qu.f l m = some true := by
 obtain ⟨f, h7, h2⟩ := Zik (fun c hc => (hr c hc).toC) m
 have h8 : Qj.f l m = some f := (audRef hr m).symm.trans h7
 by_cases hf : f = 0
 ·subst hf
  have hA := h2 rfl
  have hll := hA.log.len
  obtain ⟨n1, n2⟩ := Z47 l m
  have hT : (Z4c l m).length = l.length := Z3x _ _ _ _ _ _ _ n1 n2
  have hN : (nums 0 (Z4c l m)).length ≤ 1000 := Nat.le_trans (nums_len _ 0) (by omega)
  have hcs : (Zs (Zx (wrs l (fcs0 l m).2.1))).length ≤ 1000000000000 := by
   have h1 := Z5j (Zx (wrs l (fcs0 l m).2.1))
   have h3 := wrs_len l (fcs0 l m).2.1
   rw [Z2t] at h1
   omega
  have hsc : (Z7b l (fcs0 l m).1 (fcs0 l m).2.1).length ≤ 1000000000000 := by
   unfold Z7b
   have h1 := Z5j (Zx (l.map fun c => c.2.2.2.1))
   rw [Z2t, List.length_map] at h1
   rw [List.length_map]
   omega
  have e1 : Q1v.f l m = some (Zs (Zx (wrs l (fcs0 l m).2.1)), 0) := by
   unfold Q1v.f
   simp only [h8, ob_s, decide_true, Bool.not_true, cb_f, Z5r hA]
  have e2 : Q22.f l m = some (nums 0 (Z4c l m), 0) := by
   unfold Q22.f
   simp only [h8, ob_s, decide_true, Bool.not_true, cb_f, Z5r hA, Zcq, Z8r (show (Z4c l m).length ≤ 1000 by omega)]
  unfold Qu.f
  simp only [copyL hl hn, Zj6 (show m.length * 32 ≤ 140737488355328 by omega), Zc8 hA h7, e1, Zeq hA h7, e2, Zhe hA h7, Zes hA h8, ob_s, decide_true, Bool.not_true, cb_f, cb_t, Zgr hcs, Zj0 (Nat.le_trans hN (by decide)), Zgq hsc, sameL hl hn, Zj1 hm, awake11]
 ·have e1 : Q1w.f l m = some ([], f) := by unfold Q1w.f; simp only [h7, ob_s, decide_eq_false hf]; rfl
  have e2 : Q23.f l m = some ([], f) := by unfold Q23.f; simp only [h7, ob_s, decide_eq_false hf]; rfl
  have e3 : Ql.f l m = some ([], f) := by unfold Ql.f; simp only [h7, ob_s, decide_eq_false hf]; rfl
  have e4 : Q1v.f l m = some ([], f) := by unfold Q1v.f; simp only [h8, ob_s, decide_eq_false hf]; rfl
  have e5 : Q22.f l m = some ([], f) := by unfold Q22.f; simp only [h8, ob_s, decide_eq_false hf]; rfl
  have e6 : Q9.f l m = some ([], f) := by unfold Q9.f; simp only [h8, ob_s, decide_eq_false hf]; rfl
  unfold Qu.f
  simp only [copyL hl hn, Zj6 (show m.length * 32 ≤ 140737488355328 by omega), e1, e2, e3, e4, e5, e6, ob_s, decide_true, Bool.not_true, cb_f, cb_t, Zgr (l := []) (by simp), Zj0 (l := []) (by simp), Zgq (l := []) (by simp), sameL hl hn, Zj1 hm, awake11]
theorem law_TT' (x : List Cl × List Au) (hx : Up.InA T 6 [22,56] [.slice TyCl, .slice TyAu] x) : Qu.f x.1 x.2 = some true := by
 have hu : Up.upBytes = 4294967296 := rfl
 obtain ⟨h1, h2, h3⟩ := up_cls hx.1
 have g : List.length x.2 * 32 ≤ Up.upBytes := hx.2.1
 exact law_TT h1 h3 h2 (by omega)
end Go.Proofs.YtahlodpolggeiaaGreatDoor
