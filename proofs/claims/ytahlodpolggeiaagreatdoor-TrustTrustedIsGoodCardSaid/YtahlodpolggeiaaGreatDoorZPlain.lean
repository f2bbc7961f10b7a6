/-
  Plain laws over the printed functions: labels, words, writers, claimed results, digests, logs. No condition.
-/
import Derived.Test.YtahlodpolggeiaaGreatDoorZFun
import Derived.Sort.Walk0
import Derived.Laws.RangeAny
import Derived.Lib.IndexLaws
import Derived.Lib.ItoaLen
import Derived.Test.YtahlodpolggeiaaGreatDoorZUpA
import Derived.KernelRfl
set_option linter.unusedVariables false
set_option linter.unusedSimpArgs false
namespace Go.Proofs.YtahlodpolggeiaaGreatDoor
open Go Go.Proofs.YtahlodpolggeiaaGreatDoor.Eng
def BIG : Nat := 140737488355328
theorem Zb (s : ByteArray) : s.size = s.data.toList.length := by rw [ByteArray.size]; simp
theorem Zdh {s : ByteArray} {k : Nat} (h : k < s.data.toList.length) : bt s (k : Int) = s.data.toList[k] := by
 have h' : k < s.size := by rw [Zb]; exact h
 unfold bt
 simp only [Int.toNat_natCast]
 rw [getElem?_pos s k h', Option.getD_some]
 rfl
theorem Zdg {s : ByteArray} (hs : s.size ≤ BIG) (p : UInt8 → Bool) (f : Int → Option (Int ⊕ (Bool ⊕ Unit))) (hend : ∀ k : Nat, s.data.toList.length ≤ k → f k = some (.inr (.inr ())))
  (hno : ∀ k : Nat, ∀ h : k < s.data.toList.length, p s.data.toList[k] = false → f k = some (.inr (.inl false))) (hyes : ∀ k : Nat, ∀ h : k < s.data.toList.length, p s.data.toList[k] = true → f k = some (.inl ((k : Int) + 1))) :
  ∀ (n k : Nat), s.data.toList.length - k = n → Zp f (k : Int) = some (if (s.data.toList.drop k).all p then .inr () else .inl false) := by
 intro n
 induction n with
 | zero =>
  intro k hn
  rw [List.drop_eq_nil_of_le (by omega)]
  exact Z1 (hend k (by omega))
 | succ n ih =>
  intro k hn
  have hlt : k < s.data.toList.length := by omega
  rw [List.drop_eq_getElem_cons hlt, List.all_cons]
  cases hp : p s.data.toList[k] with
  | false => exact Z1 (hno k hlt hp)
  | true =>
   rw [Bool.true_and]
   exact (Z4 (hyes k hlt hp)).trans (ih (k + 1) (by omega))
def Zfl (c : UInt8) : Bool := decide (97 ≤ c.toNat ∧ c.toNat ≤ 122) || decide (65 ≤ c.toNat ∧ c.toNat ≤ 90) || decide (48 ≤ c.toNat ∧ c.toNat ≤ 57) || decide (0 ≤ Lib.indexByte [46, 95, 45, 43] c)
theorem Zbb (c : UInt8) : Q21.f c = some (Zfl c) := by
 have hi : Q10.f Q2a c = some (Lib.indexByte [46, 95, 45, 43] c) := rfl
 unfold Q21.f Zfl
 simp only [Z3, hi, ob_s]
 by_cases h1 : (97 : Int) ≤ ((UInt8.toNat c : Nat) : Int) <;> by_cases h2 : ((UInt8.toNat c : Nat) : Int) ≤ 122 <;> by_cases h3 : (65 : Int) ≤ ((UInt8.toNat c : Nat) : Int) <;> by_cases h4 : ((UInt8.toNat c : Nat) : Int) ≤ 90 <;>
  by_cases h5 : (48 : Int) ≤ ((UInt8.toNat c : Nat) : Int) <;> by_cases h6 : ((UInt8.toNat c : Nat) : Int) ≤ 57 <;> simp only [h1, h2, h3, h4, h5, h6, if_true, if_false] <;> congr 1 <;>
  (have g1 : decide (97 ≤ c.toNat ∧ c.toNat ≤ 122) = decide ((97 : Int) ≤ ((UInt8.toNat c : Nat) : Int) ∧ ((UInt8.toNat c : Nat) : Int) ≤ 122) := decide_eq_decide.2 (by omega)
   have g2 : decide (65 ≤ c.toNat ∧ c.toNat ≤ 90) = decide ((65 : Int) ≤ ((UInt8.toNat c : Nat) : Int) ∧ ((UInt8.toNat c : Nat) : Int) ≤ 90) := decide_eq_decide.2 (by omega)
   have g3 : decide (48 ≤ c.toNat ∧ c.toNat ≤ 57) = decide ((48 : Int) ≤ ((UInt8.toNat c : Nat) : Int) ∧ ((UInt8.toNat c : Nat) : Int) ≤ 57) := decide_eq_decide.2 (by omega)
   rw [g1, g2, g3]; simp [h1, h2, h3, h4, h5, h6])
def Z7u (s : ByteArray) : Bool := s.data.toList.all Zfl && (!decide (s = bs_) && (!decide (s = Q2j) && !decide (s = Q2i)))
theorem Zba {s : ByteArray} (hs : s.size ≤ BIG) : Q11.f s = some (Z7u s) := by
 have hb : BIG = 140737488355328 := rfl
 have hl := Zb s
 have h := Zdg hs Zfl (fun x => Q11.s0 s (s.size : Int) x) (fun k hk => by
  simp only [Q11.s0, Z3]; rw [if_neg (by omega)]) (fun k hk hp => by
  simp only [Q11.s0, Z3, Zdh hk, Zbb, hp, ob_s]; rw [if_pos (by omega), Z0 (by omega)]; rfl) (fun k hk hp => by
  simp only [Q11.s0, Z3, Zdh hk, Zbb, hp, ob_s]; rw [if_pos (by omega), Z0 (by omega), Zn (by omega) (by omega)]; rfl) s.data.toList.length 0 (by omega)
 rw [List.drop_zero] at h
 unfold Q11.f Z7u
 show ob (Zp (fun x => Q11.s0 s (s.size : Int) x) ((0 : Nat) : Int)) _ = _
 rw [h]
 cases s.data.toList.all Zfl
 ·rfl
 ·simp only [if_true, ob_s, Zcv, Bool.true_and, Z8z, Z3]
  by_cases e1 : s = bs_
  ·rw [if_pos e1, decide_eq_true e1]; rfl
  ·rw [if_neg e1, decide_eq_false e1]
   by_cases e2 : s = Q2j
   ·rw [if_pos e2, decide_eq_true e2]; rfl
   ·rw [if_neg e2, decide_eq_false e2]; rfl
theorem indexByte_lt : ∀ (l : List UInt8) (c : UInt8), -1 ≤ Lib.indexByte l c ∧ Lib.indexByte l c < l.length
 | [], c => by simp [Lib.indexByte]
 | b :: l, c => by
  have h := indexByte_lt l c
  unfold Lib.indexByte
  split
  ·simp only [List.length_cons]; omega
  ·split
   ·simp only [List.length_cons]; omega
   ·rename_i h1
    have : ¬ Lib.indexByte l c = -1 := by simpa using h1
    simp only [List.length_cons]; omega
theorem Zgb (s : ByteArray) : Q1u.f s Q2e = some (Lib.indexByte s.data.toList 47) := by
 show ob (ck _ _) _ = _
 rw [Z0 (by rfl)]; rfl
theorem index58 (s : ByteArray) : Q1a.f s Q2d = some (Lib.indexByte s.data.toList 58) := by
 show ck _ _ = _
 rw [Z0 (by rfl)]; rfl
theorem Z2k (s : ByteArray) (a b : Nat) : (s.extract a b).size = min b s.size - a := by simp [ByteArray.size_extract]
theorem Zf4 {n : Nat} (hn : n ≤ 1000000000000) : ∀ (m i : Nat) (s : ByteArray) (a : List ByteArray), n - i = m → i ≤ n → a.length = n + 1 → s.size ≤ BIG →
  ∃ (s' : ByteArray) (i' : Nat) (a' : List ByteArray), Qi.l0 Q2e 0 (n : Int) s (i : Int) a = some (s', (i' : Int), a') ∧ i' ≤ n ∧ a'.length = n + 1 ∧ (∀ x ∈ a', x.size ≤ s.size ∨ x ∈ a) ∧ s'.size ≤ s.size := by
 intro m
 have hb : BIG = 140737488355328 := rfl
 induction m with
 | zero =>
  intro i s a hm hi ha hs
  refine ⟨s, i, a, Z1 ?_, hi, ha, fun x hx => .inr hx, Nat.le_refl _⟩
  simp only [Qi.s0, Z3]
  rw [if_neg (by omega)]
 | succ m ih =>
  intro i s a hm hi ha hs
  have hx := indexByte_lt s.data.toList 47
  have hl := Zb s
  by_cases hneg : Lib.indexByte s.data.toList 47 < 0
  ·refine ⟨s, i, a, Z1 ?_, hi, ha, fun x hx => .inr hx, Nat.le_refl _⟩
   simp only [Qi.s0, Z3, Zgb, ob_s]
   rw [if_pos (by omega), if_pos hneg]
  ·have hz1 := Z2k s 0 (Int.toNat (Lib.indexByte s.data.toList 47 + 0))
   have hz2 := Z2k s (Int.toNat (Lib.indexByte s.data.toList 47 + ((Q2e.size : Nat) : Int))) s.size
   have h1 : Q2e.size = 1 := rfl
   obtain ⟨s', i', a', h2, h3, h4, h5, h6⟩ := ih (i + 1) (s.extract (Int.toNat (Lib.indexByte s.data.toList 47 + ((Q2e.size : Nat) : Int))) s.size) (a.set i (s.extract 0 (Int.toNat (Lib.indexByte s.data.toList 47 + 0)))) (by omega) (by omega) (by simpa using ha) (by rw [hz2]; omega)
   refine ⟨s', i', a', (Z4 ?_).trans h2, h3, h4, fun x hx => ?_, by omega⟩
   ·simp only [Qi.s0, Z3, Zgb, ob_s]
    rw [if_pos (by omega), if_neg hneg, Zn (by omega) (by omega), Z0 (by omega), Z0 (by omega), Z0 (by rw [Int.toNat_natCast]; omega), Zn (by rw [h1]; omega) (by rw [h1]; omega), Z0 (by rw [h1]; omega), Zn (by omega) (by omega)]
    rfl
   ·rcases h5 x hx with h | h
    ·left; omega
    ·rcases List.mem_or_eq_of_mem_set h with h | h
     ·exact .inr h
     ·left; rw [h, hz1]; omega
theorem Zbm (l : List UInt8) (c : UInt8) : (Lib.countByte l c : Nat) ≤ l.length := List.count_le_length
theorem Zdv {s : ByteArray} (hs : s.size ≤ 100000000000) : ∃ l, Q1f.f s Q2e = some l ∧ l.length ≤ 100000000002 ∧ ∀ x ∈ l, x.size ≤ s.size := by
 have hb : BIG = 140737488355328 := rfl
 have hl := Zb s
 have hc := Zbm s.data.toList 47
 have hcnt : Q29.f s Q2e = some ((Lib.countByte s.data.toList 47 : Nat) : Int) := by
  show ck _ _ = _
  rw [Z0 (by rfl)]; rfl
 obtain ⟨s', i', a', h2, h3, h4, h5, h6⟩ := Zf4 (n := Lib.countByte s.data.toList 47) (by omega) _ 0 s (List.replicate (Lib.countByte s.data.toList 47 + 1) ByteArray.empty) rfl (Nat.zero_le _) (by simp) (by omega)
 unfold Q1f.f Qi.f
 have e1 : ¬ (Q2e = bs_) := by decide
 have hy : min (((Lib.countByte s.data.toList 47 : Nat) : Int) + 1) (((s.size : Nat) : Int) + 1) = ((Lib.countByte s.data.toList 47 + 1 : Nat) : Int) := by omega
 simp only [Z3, hcnt, ob_s, hy]
 rw [if_neg (by decide), if_neg e1, if_pos (by decide), Zn (by omega) (by omega), Zn (by omega) (by omega), Z0 (by omega), Zn (by omega) (by omega)]
 rw [show ((Lib.countByte s.data.toList 47 + 1 : Nat) : Int) - 1 = ((Lib.countByte s.data.toList 47 : Nat) : Int) by omega, Int.toNat_natCast]
 rw [show ((0 : Nat) : Int) = 0 from rfl] at h2
 rw [h2, ob_s]
 simp only
 rw [Z0 (by omega), Z0 (by rw [Int.toNat_natCast]; omega), Zn (by omega) (by omega), Z0 (by simp only [List.length_set]; omega), ob_s]
 refine ⟨_, rfl, by simp only [List.length_take, List.length_drop, List.length_set]; omega, fun x hx => ?_⟩
 have hx1 := List.mem_of_mem_drop (List.mem_of_mem_take hx)
 rcases List.mem_or_eq_of_mem_set hx1 with h | h
 ·rcases h5 x h with h | h
  ·exact h
  ·have := List.eq_of_mem_replicate h
   rw [this]; exact Nat.zero_le _
 ·rw [h]; exact h6
noncomputable def Z1u (s : ByteArray) : List ByteArray := (Q1f.f s Q2e).getD []
theorem Zhy {s : ByteArray} (hs : s.size ≤ 100000000000) : Q1f.f s Q2e = some (Z1u s) ∧ (Z1u s).length ≤ 100000000002 ∧ ∀ x ∈ Z1u s, x.size ≤ s.size := by
 obtain ⟨l, h1, h2, h3⟩ := Zdv hs
 have e : Z1u s = l := by unfold Z1u; rw [h1]; rfl
 rw [e]
 exact ⟨h1, h2, h3⟩
theorem Zij {α : Type} {l : List α} (p : α → Bool) (f : Int → Option (Int ⊕ (Bool ⊕ Unit))) (hend : ∀ k : Nat, l.length ≤ k → f k = some (.inr (.inr ())))
  (hno : ∀ k : Nat, ∀ h : k < l.length, p l[k] = false → f k = some (.inr (.inl false))) (hyes : ∀ k : Nat, ∀ h : k < l.length, p l[k] = true → f k = some (.inl ((k : Int) + 1))) :
  ∀ (n k : Nat), l.length - k = n → Zp f (k : Int) = some (if (l.drop k).all p then .inr () else .inl false) := by
 intro n
 induction n with
 | zero =>
  intro k hn
  rw [List.drop_eq_nil_of_le (by omega)]
  exact Z1 (hend k (by omega))
 | succ n ih =>
  intro k hn
  have hlt : k < l.length := by omega
  rw [List.drop_eq_getElem_cons hlt, List.all_cons]
  cases hp : p l[k] with
  | false => exact Z1 (hno k hlt hp)
  | true =>
   rw [Bool.true_and]
   exact (Z4 (hyes k hlt hp)).trans (ih (k + 1) (by omega))
noncomputable def Z2q (s : ByteArray) : Bool := if 1 ≤ s.size ∧ s.size ≤ 200 then (Z1u s).all Z7u else false
theorem Zg8 (s : ByteArray) : Qu.f s = some (Z2q s) := by
 have hb : BIG = 140737488355328 := rfl
 unfold Qu.f Z2q
 simp only [Z3]
 by_cases h1 : ((s.size : Nat) : Int) < 1
 ·rw [if_pos h1, if_neg (by omega)]
 ·by_cases h2 : (200 : Int) < ((s.size : Nat) : Int)
  ·rw [if_neg h1, if_pos h2, if_neg (by omega)]
  ·obtain ⟨g1, g2, g3⟩ := Zhy (s := s) (by omega)
   have h := Zij (l := Z1u s) Z7u (fun x => Qu.s0 (Z1u s) ((Z1u s).length : Int) x) (fun k hk => by
    simp only [Qu.s0, Z3]; rw [if_neg (by omega)]) (fun k hk hp => by
    have hz := g3 _ (List.getElem_mem hk)
    simp only [Qu.s0, Z3, Z16 hk, Zba (s := (Z1u s)[k]) (by omega), hp, ob_s]; rw [if_pos (by omega), Z0 (by omega)]; rfl) (fun k hk hp => by
    have hz := g3 _ (List.getElem_mem hk)
    simp only [Qu.s0, Z3, Z16 hk, Zba (s := (Z1u s)[k]) (by omega), hp, ob_s]; rw [if_pos (by omega), Z0 (by omega), Zn (by omega) (by omega)]; rfl) (Z1u s).length 0 (by omega)
   rw [List.drop_zero] at h
   rw [if_neg h1, if_neg h2, if_pos (by omega), g1, ob_s]
   show ob (Zp (fun x => Qu.s0 (Z1u s) ((Z1u s).length : Int) x) ((0 : Nat) : Int)) _ = _
   rw [h]
   cases (Z1u s).all Z7u <;> rfl
def hasP (s p : ByteArray) : Bool := decide (p.size ≤ s.size) && decide (s.extract 0 p.size = p)
theorem Z6l (s p : ByteArray) : Qh.f s p = some (hasP s p) := by
 unfold Qh.f hasP
 simp only [Z3, Int.toNat_natCast]
 by_cases h : p.size ≤ s.size
 ·rw [if_pos (by omega), Z0 (by omega), decide_eq_true h, Bool.true_and]
 ·rw [if_neg (by omega), decide_eq_false h, Bool.false_and]
def cutP (s p : ByteArray) : ByteArray × Bool := if hasP s p then (s.extract p.size s.size, true) else (s, false)
theorem Zbl (s p : ByteArray) : Q17.f s p = some (cutP s p) := by
 unfold Q17.f Qp.f cutP
 simp only [Z6l, ob_s, Int.toNat_natCast]
 cases h : hasP s p with
 | false => rfl
 | true =>
  have h' : p.size ≤ s.size := by
   unfold hasP at h
   rw [Bool.and_eq_true] at h
   exact of_decide_eq_true h.1
  simp only [Bool.not_true, cb_f]
  rw [Z0 (by omega)]
  rfl
def Z68 (s : ByteArray) : ByteArray × (ByteArray × Bool) :=
 if 0 ≤ Lib.indexByte s.data.toList 58 then (s.extract 0 (Lib.indexByte s.data.toList 58).toNat, s.extract ((Lib.indexByte s.data.toList 58).toNat + 1) s.size, true) else (s, bs_, false)
theorem cut_eq {s : ByteArray} (hs : s.size ≤ BIG) : Q1w.f s Q2d = some (Z68 s) := by
 have hb : BIG = 140737488355328 := rfl
 have hx := indexByte_lt s.data.toList 58
 have hl := Zb s
 have h1 : Q2d.size = 1 := rfl
 unfold Q1w.f Q12.f Z68
 simp only [index58, ob_s, Z3, h1]
 by_cases h : 0 ≤ Lib.indexByte s.data.toList 58
 ·rw [if_pos h, if_pos h, Z0 (by omega), Zn (by omega) (by omega), Z0 (by omega), ob_s]
  rw [show (Lib.indexByte s.data.toList 58 + ((1 : Nat) : Int)).toNat = (Lib.indexByte s.data.toList 58).toNat + 1 by omega]
 ·rw [if_neg h, if_neg h]; rfl
theorem Zg4 {s : ByteArray} (hs : s.size ≤ BIG) : ∃ r, Q1x.f s = some r ∧ r.size ≤ s.size := by
 have hb : BIG = 140737488355328 := rfl
 have hl := Zb s
 have go : ∀ (m : Nat) (k : Int), (k + 1).toNat = m → -1 ≤ k → k < s.size → ∃ r, Q2.l0 s (UInt8.ofInt 47) k = some r ∧ ∀ i, r = .inl i → 0 ≤ i ∧ i < s.size := by
  intro m
  induction m with
  | zero =>
   intro k hm h1 h2
   refine ⟨.inr (), Z1 ?_, fun i h => by cases h⟩
   simp only [Q2.s0, Z3]
   rw [if_neg (by omega)]
  | succ m ih =>
   intro k hm h1 h2
   by_cases he : ((UInt8.toNat (bt s k) : Nat) : Int) = ((UInt8.toNat (UInt8.ofInt 47) : Nat) : Int)
   ·refine ⟨.inl k, Z1 ?_, fun i h => by cases h; omega⟩
    simp only [Q2.s0, Z3]
    rw [if_pos (by omega), Z0 (by omega), if_pos he]
   ·obtain ⟨r, h3, h4⟩ := ih (k - 1) (by omega) (by omega) (by omega)
    refine ⟨r, (Z4 ?_).trans h3, h4⟩
    simp only [Q2.s0, Z3]
    rw [if_pos (by omega), Z0 (by omega), if_neg he, Zn (by omega) (by omega)]
 obtain ⟨r, h1, h2⟩ := go _ (((s.size : Nat) : Int) - 1) rfl (by omega) (by omega)
 unfold Q1x.f Q19.f Q2.f
 simp only [h1, ob_s]
 rw [Zn (by omega) (by omega)]
 cases r with
 | inl i =>
  have := h2 i rfl
  simp only [Zcw, ob_s]
  rw [Zn (by omega) (by omega), Z0 (by omega)]
  exact ⟨_, rfl, by rw [Z2k]; omega⟩
 | inr u =>
  simp only [Zcv, ob_s]
  rw [Zn (by omega) (by omega), Z0 (by omega)]
  exact ⟨_, rfl, by rw [Z2k]; omega⟩
noncomputable def labF (a : ByteArray × ByteArray) : Int := if (a.1 = bs_ ∨ Z2q a.1 = true) ∧ Z2q a.2 = true then 0 else 3
theorem Z3b (a : ByteArray × ByteArray) : Qw.f a = some (labF a) := by
 unfold Qw.f labF
 simp only [Zg8, ob_s, Z8z, Z3]
 by_cases e : a.1 = bs_
 ·simp only [e, if_true, true_or, true_and]
  cases Z2q a.2 <;> rfl
 ·simp only [e, if_false, false_or]
  cases Z2q a.1 <;> cases Z2q a.2 <;> rfl
end Go.Proofs.YtahlodpolggeiaaGreatDoor
set_option linter.unusedVariables false
set_option linter.unusedSimpArgs false
namespace Go.Proofs.YtahlodpolggeiaaGreatDoor
open Go Go.Proofs.YtahlodpolggeiaaGreatDoor.Eng
def cmpS (a b : ByteArray) : Int := Lib.compareBytes a.data.toList b.data.toList
theorem cmpL_less : ∀ a b : List UInt8, (Lib.compareBytes a b < 0 ↔ Op.bytesLess a b = true)
 | [], [] => by simp [Lib.compareBytes, Op.bytesLess]
 | [], _ :: _ => by simp [Lib.compareBytes, Op.bytesLess]
 | _ :: _, [] => by simp [Lib.compareBytes, Op.bytesLess]
 | x :: a, y :: b => by
  have ih := cmpL_less a b
  unfold Lib.compareBytes Op.bytesLess
  by_cases h1 : x < y
  ·simp [h1]
  ·by_cases h2 : y < x
   ·have h3 : ¬ x = y := fun e => by subst e; exact absurd h2 (UInt8.lt_irrefl x)
    simp [h1, h2, h3]
   ·have h3 : x = y := UInt8.le_antisymm (UInt8.not_lt.1 h2) (UInt8.not_lt.1 h1)
    subst h3
    simp only [h1, if_false, decide_false, Bool.false_or, beq_self_eq_true, Bool.true_and]
    exact ih
theorem cmpL_eq0 : ∀ a b : List UInt8, (Lib.compareBytes a b = 0 ↔ a = b)
 | [], [] => by simp [Lib.compareBytes]
 | [], _ :: _ => by simp [Lib.compareBytes]
 | _ :: _, [] => by simp [Lib.compareBytes]
 | x :: a, y :: b => by
  have ih := cmpL_eq0 a b
  unfold Lib.compareBytes
  by_cases h1 : x < y
  ·have h3 : ¬ x = y := fun e => by subst e; exact absurd h1 (UInt8.lt_irrefl x)
   simp [h1, h3]
  ·by_cases h2 : y < x
   ·have h3 : ¬ x = y := fun e => by subst e; exact absurd h2 (UInt8.lt_irrefl x)
    simp [h1, h2, h3]
   ·have h3 : x = y := UInt8.le_antisymm (UInt8.not_lt.1 h2) (UInt8.not_lt.1 h1)
    subst h3
    simp only [h1, if_false, List.cons.injEq, true_and]
    exact ih
theorem cmpL_swap : ∀ a b : List UInt8, Lib.compareBytes b a = - Lib.compareBytes a b
 | [], [] => rfl
 | [], _ :: _ => rfl
 | _ :: _, [] => rfl
 | x :: a, y :: b => by
  have ih := cmpL_swap a b
  unfold Lib.compareBytes
  by_cases h1 : x < y
  ·have h2 : ¬ y < x := UInt8.not_lt.2 (UInt8.le_of_lt h1)
   simp [h1, h2]
  ·by_cases h2 : y < x
   ·simp [h1, h2]
   ·simp only [h1, h2, if_false]; exact ih
theorem cmpL_trans : ∀ a b c : List UInt8, Lib.compareBytes a b < 0 → Lib.compareBytes b c < 0 → Lib.compareBytes a c < 0
 | [], [], c, h, _ => by simp [Lib.compareBytes] at h
 | [], _ :: _, [], _, h => by simp [Lib.compareBytes] at h
 | [], _ :: _, _ :: _, _, _ => by simp [Lib.compareBytes]
 | _ :: _, [], c, h, _ => by simp [Lib.compareBytes] at h
 | _ :: _, _ :: _, [], _, h => by simp [Lib.compareBytes] at h
 | x :: a, y :: b, z :: c, h, h' => by
  have ih := cmpL_trans a b c
  unfold Lib.compareBytes at h h' ⊢
  by_cases h1 : x < y
  ·by_cases h2 : y < z
   ·simp [UInt8.lt_trans h1 h2]
   ·by_cases h3 : z < y
    ·simp [h2, h3] at h'
    ·have e : y = z := UInt8.le_antisymm (UInt8.not_lt.1 h3) (UInt8.not_lt.1 h2)
     subst e; simp [h1]
  ·by_cases h2 : y < x
   ·simp [h1, h2] at h
   ·have e : x = y := UInt8.le_antisymm (UInt8.not_lt.1 h2) (UInt8.not_lt.1 h1)
    subst e
    by_cases h3 : x < z
    ·simp [h3]
    ·by_cases h4 : z < x
     ·simp [h3, h4] at h'
     ·simp only [h1, if_false] at h
      simp only [h3, h4, if_false] at h' ⊢
      exact ih h h'
theorem Zhd (a b : ByteArray) : Z4e a b = true ↔ cmpS a b < 0 := by
 unfold Z4e cmpS
 rw [ByteArray.toList_eq, ByteArray.toList_eq]
 exact (cmpL_less _ _).symm
theorem Z4a (a b : ByteArray) : cmpS a b = 0 ↔ a = b := by
 unfold cmpS
 rw [cmpL_eq0]
 exact ⟨fun h => ByteArray.ext (Array.toList_inj.1 h), fun h => by rw [h]⟩
theorem Zh5 (a b : ByteArray) : cmpS b a = - cmpS a b := cmpL_swap _ _
theorem Z69 {a b c : ByteArray} (h : cmpS a b < 0) (h' : cmpS b c < 0) : cmpS a c < 0 := cmpL_trans _ _ _ h h'
theorem Zfx (a b : ByteArray) : (Z4e a b || decide (a = b)) = decide (cmpS a b ≤ 0) := by
 have h1 := Zhd a b
 have h2 := Z4a a b
 by_cases h : cmpS a b < 0
 ·rw [h1.2 h, Bool.true_or, decide_eq_true (by omega)]
 ·have hf : Z4e a b = false := by
   cases hb : Z4e a b with
   | false => rfl
   | true => exact absurd (h1.1 hb) h
  rw [hf, Bool.false_or]
  exact decide_eq_decide.2 ⟨fun e => by rw [h2.2 e]; exact Int.le_refl _, fun e => h2.1 (by omega)⟩
def Rising (l : List ByteArray) : Prop := ∀ i j : Nat, ∀ h : j < l.length, ∀ h' : i < j, cmpS (l[i]'(by omega)) l[j] < 0
theorem Zcd {l : List ByteArray} (h : ∀ k : Nat, ∀ hk : k + 1 < l.length, cmpS (l[k]'(by omega)) l[k + 1] < 0) : Rising l := by
 intro i j
 induction j with
 | zero => intro h h'; omega
 | succ j ih =>
  intro hj hij
  rcases Nat.lt_or_ge i j with h1 | h1
  ·exact Z69 (ih (by omega) h1) (h j hj)
  ·have : i = j := by omega
   subst this
   exact h i hj
theorem Rising.inj {l : List ByteArray} (h : Rising l) {i j : Nat} (hi : i < l.length) (hj : j < l.length) (e : l[i] = l[j]) : i = j := by
 rcases Nat.lt_trichotomy i j with h1 | h1 | h1
 ·have := h i j hj h1
  rw [e] at this
  have h0 := (Z4a l[j] l[j]).2 rfl
  omega
 ·exact h1
 ·have := h j i hi h1
  rw [e] at this
  have h0 := (Z4a l[j] l[j]).2 rfl
  omega
end Go.Proofs.YtahlodpolggeiaaGreatDoor
set_option linter.unusedVariables false
set_option linter.unusedSimpArgs false
namespace Go.Proofs.YtahlodpolggeiaaGreatDoor
open Go Go.Lib Go.Proofs.YtahlodpolggeiaaGreatDoor.Eng
def plainC (c : UInt8) : Bool := decide (33 ≤ c.toNat ∧ c.toNat ≤ 126)
def Z3n (s : ByteArray) : Bool := s.data.toList.all plainC
theorem Zis {s : ByteArray} {k : Nat} (h : k < s.size) : s[k] = s.data.toList[k]'(by rw [← Zb]; exact h) := by
 rfl
theorem Zbc (s : ByteArray) : ∀ (f pos : Nat), s.size - pos ≤ f → decide (0 ≤ idxFuncFrom Z1n true s f pos) = !(s.data.toList.drop pos).all plainC
 | 0, pos, h => by
  have hl := Zb s
  rw [List.drop_eq_nil_of_le (by omega)]
  rfl
 | f + 1, pos, h => by
  have hl := Zb s
  unfold idxFuncFrom
  by_cases hp : pos < s.size
  ·rw [if_pos hp]
   have hlt : pos < s.data.toList.length := by omega
   rw [List.drop_eq_getElem_cons hlt, List.all_cons]
   have hg := Zis hp
   by_cases ha : (s[pos]'hp).toNat < 128
   ·rw [decode_ascii s pos hp ha]
    simp only
    rw [hg]
    rw [hg] at ha
    by_cases hn : Z1n (s.data.toList[pos]).toNat = true
    ·rw [if_pos hn]
     have : plainC s.data.toList[pos] = false := by
      unfold plainC
      unfold Z1n at hn
      have := of_decide_eq_true hn
      exact decide_eq_false (by omega)
     rw [this, Bool.false_and, decide_eq_true (by omega)]; rfl
    ·rw [if_neg hn, Zbc s f (pos + 1) (by omega)]
     have : plainC s.data.toList[pos] = true := by
      unfold plainC
      unfold Z1n at hn
      have : ¬ ((s.data.toList[pos]).toNat < 33 ∨ 126 < (s.data.toList[pos]).toNat) := fun h => hn (decide_eq_true h)
      exact decide_eq_true (by omega)
     rw [this, Bool.true_and]
   ·have hd := decode_high s pos hp (by omega)
    have hn : Z1n (Utf8.decode s pos).1 = true := decide_eq_true (by omega)
    rw [if_pos hn]
    have : plainC s.data.toList[pos] = false := by
     unfold plainC
     rw [← hg]
     exact decide_eq_false (by omega)
    rw [this, Bool.false_and, decide_eq_true (by omega)]; rfl
  ·rw [if_neg hp, List.drop_eq_nil_of_le (by omega)]
   rfl
theorem Z45 (s : ByteArray) : Q1g.f s = some (Z3n s) := by
 unfold Q1g.f Q1n.f
 have h := Zbc s s.size 0 (by omega)
 rw [List.drop_zero] at h
 have h' : decide (0 ≤ idxFunc Z1n true s) = !Z3n s := h
 rw [ob_s, h', Bool.not_not]
theorem Z72 {s : ByteArray} (hs : s.size ≤ BIG) : Qx.f s = some (Z3n s && !decide (s = bs_)) := by
 have hb : BIG = 140737488355328 := rfl
 have hl := Zb s
 have h := Zdg hs plainC (fun x => Qx.s0 s (s.size : Int) x) (fun k hk => by
  simp only [Qx.s0, Z3]; rw [if_neg (by omega)]) (fun k hk hp => by
  have hp' := of_decide_eq_false hp
  simp only [Qx.s0, Z3, Zdh hk]
  rw [if_pos (by omega), Z0 (by omega)]
  by_cases h1 : ((UInt8.toNat s.data.toList[k] : Nat) : Int) < 33
  ·rw [if_pos h1]
  ·rw [if_neg h1, Z0 (by omega), if_pos (by omega)]) (fun k hk hp => by
  have hp' := of_decide_eq_true hp
  simp only [Qx.s0, Z3, Zdh hk]
  rw [if_pos (by omega), Z0 (by omega), if_neg (by omega), Z0 (by omega), if_neg (by omega), Zn (by omega) (by omega)]) s.data.toList.length 0 (by omega)
 rw [List.drop_zero] at h
 unfold Qx.f
 show ob (Zp (fun x => Qx.s0 s (s.size : Int) x) ((0 : Nat) : Int)) _ = _
 rw [h]
 unfold Z3n
 cases s.data.toList.all plainC <;> rfl
theorem Zi0 {s : ByteArray} : s.size = 0 ↔ s = bs_ := by
 constructor
 ·intro h
  have hl := Zb s
  have : s.data.toList = [] := List.eq_nil_of_length_eq_zero (by omega)
  apply ByteArray.ext
  apply Array.toList_inj.1
  rw [this]; rfl
 ·rintro rfl; rfl
theorem Zcm {s : ByteArray} (hs : s.size ≤ BIG) : Q1e.f s = Q1o.f s := by
 unfold Q1e.f Q1o.f
 simp only [Z45, Z72 hs, ob_s, Z3]
 by_cases h0 : s = bs_
 ·subst h0; rfl
 ·have h1 : (1 : Int) ≤ ((s.size : Nat) : Int) := by
   have : s.size ≠ 0 := fun h => h0 (Zi0.1 h)
   omega
  rw [if_pos h1, decide_eq_false h0, Bool.not_false, Bool.and_true]
  by_cases h2 : ((s.size : Nat) : Int) ≤ 100
  ·rw [if_pos h2, decide_eq_true h2]
   cases Z3n s <;> rfl
  ·rw [if_neg h2, decide_eq_false h2]
   cases Z3n s <;> rfl
def Zdo (c : UInt8) : Bool := decide (97 ≤ c.toNat ∧ c.toNat ≤ 122) || decide (48 ≤ c.toNat ∧ c.toNat ≤ 57) || decide (c.toNat = 45) || decide (c.toNat = 95)
theorem Z5j {p : UInt8 → Bool} : ∀ {l : List UInt8}, l.dropWhile p = [] ↔ l.all p = true
 | [] => by simp
 | x :: l => by
  rw [List.dropWhile_cons, List.all_cons]
  cases h : p x with
  | true => simp only [if_true, Bool.true_and]; exact Z5j
  | false => simp
theorem Z5k {p : UInt8 → Bool} : ∀ {l : List UInt8}, (l.dropWhile p).all p = l.all p
 | [] => rfl
 | x :: l => by
  rw [List.dropWhile_cons]
  cases h : p x with
  | true => simp only [if_true, List.all_cons, h, Bool.true_and]; exact Z5k
  | false => simp only [Bool.false_eq_true, if_false]
theorem Zd1 (l cs : List UInt8) : trimS l cs = [] ↔ l.all (fun c => cs.contains c) = true := by
 have e1 : trimLeftS (trimRightS l cs) cs = ((l.reverse.dropWhile (cs.contains ·)).reverse).dropWhile (cs.contains ·) := rfl
 unfold trimS
 rw [e1, Z5j, List.all_reverse, Z5k, List.all_reverse]
abbrev wordCs : ByteArray := Qy
theorem Zhp (c : UInt8) : wordCs.data.toList.contains c = Zdo c := by
 have key : ∀ n : Fin 256, wordCs.data.toList.contains (UInt8.ofNat n.val) = Zdo (UInt8.ofNat n.val) := by decide +kernel
 have h := key ⟨c.toNat, c.toNat_lt⟩
 simp only [UInt8.ofNat_toNat] at h
 exact h
def Z93 (s : ByteArray) : Bool := if 1 ≤ s.size ∧ s.size ≤ 40 then (decide (97 ≤ (bt s 0).toNat ∧ (bt s 0).toNat ≤ 122) && s.data.toList.all Zdo) else false
theorem Z5c (s : ByteArray) : Q1d.f s = some (Z93 s) := by
 unfold Q1d.f Z93
 simp only [Z3]
 by_cases h1 : ((s.size : Nat) : Int) < 1
 ·rw [if_pos h1, if_neg (by omega)]
 ·by_cases h2 : (40 : Int) < ((s.size : Nat) : Int)
  ·rw [if_neg h1, if_pos h2, if_neg (by omega)]
  ·rw [if_neg h1, if_neg h2, Z0 (by omega), Z0 (by omega), if_pos (show 1 ≤ s.size ∧ s.size ≤ 40 by omega)]
   by_cases h3 : ((UInt8.toNat (bt s 0) : Nat) : Int) < 97
   ·rw [if_pos h3, decide_eq_false (by omega), Bool.false_and]
   ·by_cases h4 : (122 : Int) < ((UInt8.toNat (bt s 0) : Nat) : Int)
    ·rw [if_neg h3, if_pos h4, decide_eq_false (by omega), Bool.false_and]
    ·rw [if_neg h3, if_neg h4, decide_eq_true (by omega), Bool.true_and]
     unfold Q28.f
     rw [Z0 ⟨by omega, by decide, by decide +kernel⟩, ob_s]
     congr 1
     have h5 : (⟨(trimS s.data.toList wordCs.data.toList).toArray⟩ : ByteArray) = bs_ ↔ s.data.toList.all Zdo = true := by
      have e : s.data.toList.all Zdo = s.data.toList.all (fun c => wordCs.data.toList.contains c) := by
       congr 1; funext c; exact (Zhp c).symm
      rw [e, ← Zd1]
      constructor
      ·intro h
       have := congrArg (fun b : ByteArray => b.data.toList) h
       have h7 : trimS s.data.toList wordCs.data.toList = bs_.data.toList := by simpa using this
       exact h7.trans rfl
      ·intro h
       rw [h]; rfl
     cases h6 : s.data.toList.all Zdo with
     | true => exact decide_eq_true (h5.2 h6)
     | false => exact decide_eq_false (fun h => by rw [h5.1 h] at h6; cases h6)
end Go.Proofs.YtahlodpolggeiaaGreatDoor
set_option linter.unusedVariables false
set_option linter.unusedSimpArgs false
namespace Go.Proofs.YtahlodpolggeiaaGreatDoor
open Go Go.Lib Go.Proofs.YtahlodpolggeiaaGreatDoor.Eng
theorem Zep {s t : ByteArray} (h : s.data.toList = t.data.toList) : s = t := by
 apply ByteArray.ext
 exact Array.toList_inj.1 h
theorem Zcz (s t : ByteArray) : (s ++ t).data.toList = s.data.toList ++ t.data.toList := by simp
theorem L_ex (s : ByteArray) (a b : Nat) : (s.extract a b).data.toList = (s.data.toList.take b).drop a := by simp [ByteArray.data_extract, List.drop_take]
end Go.Proofs.YtahlodpolggeiaaGreatDoor
set_option linter.unusedVariables false
set_option linter.unusedSimpArgs false
namespace Go.Proofs.YtahlodpolggeiaaGreatDoor
open Go Go.Lib Go.Proofs.YtahlodpolggeiaaGreatDoor.Eng
theorem L_47 : Q1m.data.toList = [47, 47] := rfl
theorem L_58 : Q2d.data.toList = [58] := rfl
theorem Zda {s p : ByteArray} : hasP s p = true ↔ ∃ t, s.data.toList = p.data.toList ++ t := by
 have hl := Zb s
 have hp := Zb p
 unfold hasP
 rw [Bool.and_eq_true, decide_eq_true_eq, decide_eq_true_eq]
 constructor
 ·rintro ⟨h1, h2⟩
  have h3 := congrArg (fun b : ByteArray => b.data.toList) h2
  simp only [L_ex, List.drop_zero] at h3
  exact ⟨s.data.toList.drop p.size, by rw [← h3, List.take_append_drop]⟩
 ·rintro ⟨t, ht⟩
  have hlen := congrArg List.length ht
  rw [List.length_append] at hlen
  refine ⟨by omega, Zep ?_⟩
  rw [L_ex, List.drop_zero, ht, List.take_append_of_le_length (by omega), List.take_of_length_le (by omega)]
theorem Zde {s p : ByteArray} {t : List UInt8} (h : s.data.toList = p.data.toList ++ t) : (cutP s p).2 = true ∧ (cutP s p).1.data.toList = t := by
 have hl := Zb s
 have hp := Zb p
 have hlen := congrArg List.length h
 rw [List.length_append] at hlen
 unfold cutP
 rw [if_pos (Zda.2 ⟨t, h⟩)]
 refine ⟨rfl, ?_⟩
 show (s.extract p.size s.size).data.toList = t
 rw [L_ex, List.take_of_length_le (by omega), h, List.drop_append_of_le_length (by omega), List.drop_of_length_le (by omega), List.nil_append]
theorem Zh2 {s p : ByteArray} (h : ¬ ∃ t, s.data.toList = p.data.toList ++ t) : cutP s p = (s, false) := by
 unfold cutP
 rw [if_neg (fun h' => h (Zda.1 h'))]
theorem colon (l : List UInt8) : (Lib.indexByte l 58 = -1 ∧ 58 ∉ l) ∨ ∃ a b, l = a ++ 58 :: b ∧ 58 ∉ a ∧ Lib.indexByte l 58 = (a.length : Int) := by
 have h1 := indexByte_lt l 58
 by_cases h : Lib.indexByte l 58 = -1
 ·refine .inl ⟨h, fun hm => ?_⟩
  obtain ⟨k, hk, he⟩ := List.getElem_of_mem hm
  exact indexByte_none h k (by rw [List.getElem?_eq_getElem hk, he])
 ·right
  obtain ⟨o, ho⟩ : ∃ o : Nat, Lib.indexByte l 58 = o := ⟨(Lib.indexByte l 58).toNat, by omega⟩
  obtain ⟨h2, h3⟩ := indexByte_some ho
  have hol : o < l.length := by omega
  refine ⟨l.take o, l.drop (o + 1), ?_, fun hm => ?_, ?_⟩
  ·have : l[o] = 58 := by rw [List.getElem?_eq_getElem hol] at h2; exact Option.some.inj h2
   rw [← this, ← List.drop_eq_getElem_cons hol, List.take_append_drop]
  ·obtain ⟨k, hk, he⟩ := List.getElem_of_mem hm
   have hko : k < o := by have := hk; simp at this; omega
   rw [List.getElem_take] at he
   exact h3 k hko (by rw [List.getElem?_eq_getElem (by omega), he])
  ·rw [ho, List.length_take]; omega
theorem Zio {a b : List UInt8} (h : 58 ∉ a) : Lib.indexByte (a ++ 58 :: b) 58 = (a.length : Int) := by
 rcases colon (a ++ 58 :: b) with ⟨_, h2⟩ | ⟨a', b', h2, h3, h4⟩
 ·exact absurd (by simp) h2
 ·have : a.length = a'.length := by
   have key : ∀ (a a' b b' : List UInt8), 58 ∉ a → 58 ∉ a' → a ++ 58 :: b = a' ++ 58 :: b' → a.length = a'.length := by
    intro a
    induction a with
    | nil =>
     intro a' b b' _ h2 h3
     cases a' with
     | nil => rfl
     | cons x a' =>
      injection h3 with e _
      exact absurd (e ▸ List.mem_cons_self ..) h2
    | cons x a ih =>
     intro a' b b' h1 h2 h3
     cases a' with
     | nil =>
      injection h3 with e _
      exact absurd (e ▸ List.mem_cons_self ..) h1
     | cons y a' =>
      injection h3 with _ e
      have := ih a' b b' (fun h => h1 (List.mem_cons_of_mem _ h)) (fun h => h2 (List.mem_cons_of_mem _ h)) e
      simp [this]
   exact key a a' b b' h h3 h2
  rw [h4, this]
theorem Zh1 {s : ByteArray} {a b : List UInt8} (hs : s.data.toList = a ++ 58 :: b) (h : 58 ∉ a) : (Z68 s).1.data.toList = a ∧ (Z68 s).2.1.data.toList = b ∧ (Z68 s).2.2 = true := by
 have hl := Zb s
 have hi : Lib.indexByte s.data.toList 58 = (a.length : Int) := by rw [hs]; exact Zio h
 have hlen := congrArg List.length hs
 rw [List.length_append, List.length_cons] at hlen
 unfold Z68
 rw [if_pos (by omega), hi, Int.toNat_natCast]
 refine ⟨?_, ?_, rfl⟩
 ·rw [L_ex, List.drop_zero, hs, List.take_append_of_le_length (Nat.le_refl _), List.take_of_length_le (Nat.le_refl _)]
 ·show (s.extract (a.length + 1) s.size).data.toList = b
  rw [L_ex, List.take_of_length_le (by omega), hs]
  have : a ++ 58 :: b = (a ++ [58]) ++ b := by simp
  rw [this, List.drop_append_of_le_length (by simp), List.drop_of_length_le (by simp), List.nil_append]
theorem cut_no {s : ByteArray} (h : 58 ∉ s.data.toList) : Z68 s = (s, bs_, false) := by
 rcases colon s.data.toList with ⟨h1, _⟩ | ⟨a, b, h1, _⟩
 ·unfold Z68
  rw [h1, if_neg (by decide)]
 ·exact absurd (by rw [h1]; simp) h
def IsLab (s : ByteArray) : Prop := ∃ x y : ByteArray, s.data.toList = [47, 47] ++ (x.data.toList ++ 58 :: y.data.toList) ∧ 58 ∉ x.data.toList ∧ labF (x, y) = 0
theorem Za3 {s : ByteArray} (hs : s.size ≤ BIG) : ∃ b, Q1b.f s = some b ∧ (b = true ↔ IsLab s) := by
 have hb : BIG = 140737488355328 := rfl
 have hl := Zb s
 have hw : ∀ a : ByteArray × ByteArray, a.1.size ≤ s.size → a.2.size ≤ s.size → Q1r.f a = some (((Q1m ++ a.1) ++ Q2d) ++ a.2) := fun a h1 h2 => by
  unfold Q1r.f
  have e1 : Q1m.size = 2 := rfl
  have e2 : Q2d.size = 1 := rfl
  simp only [ByteArray.size_append, e1, e2]
  rw [Z0 (by omega), Z0 (by omega), Z0 (by omega)]
 have hLw : ∀ a b : ByteArray, (((Q1m ++ a) ++ Q2d) ++ b).data.toList = [47, 47] ++ (a.data.toList ++ 58 :: b.data.toList) := fun a b => by
  rw [Zcz, Zcz, Zcz, L_47, L_58]; simp
 unfold Q1b.f Q1h.f
 simp only [decide_true, Bool.not_true, cb_f, Zbl, ob_s]
 by_cases hp : ∃ t, s.data.toList = Q1m.data.toList ++ t
 ·obtain ⟨t, ht⟩ := hp
  obtain ⟨c1, c2⟩ := Zde ht
  have hsz : (cutP s Q1m).1.size ≤ s.size := by
   rw [Zb, c2]
   have := congrArg List.length ht
   rw [List.length_append] at this
   omega
  rw [L_47] at ht
  simp only [c1, cb_t, cut_eq (s := (cutP s Q1m).1) (by omega), ob_s]
  rcases colon (cutP s Q1m).1.data.toList with ⟨_, hno⟩ | ⟨a, b, h1, h2, _⟩
  ·rw [cut_no hno]
   obtain ⟨r, r1, r2⟩ := Zg4 (s := (cutP s Q1m).1) (by omega)
   simp only [Bool.not_false, cb_t, r1, ob_s, Z3b, Z8z, Z3]
   refine ⟨false, ?_, fun h => (by cases h), fun ⟨x, y, h3, _, _⟩ => ?_⟩
   ·by_cases h0 : labF ((cutP s Q1m).1, r) = 0
    ·rw [if_pos h0]
     simp only [ob_s, if_true]
     rw [hw _ hsz (by show r.size ≤ _; omega), ob_s]
     refine congrArg some (decide_eq_false fun e => ?_)
     have e2 := congrArg (fun b : ByteArray => b.data.toList) e
     simp only [hLw] at e2
     rw [ht, c2] at e2
     have := congrArg List.length e2
     simp at this
    ·rw [if_neg h0]
     simp only [ob_s]
     rw [if_neg (by decide)]
   ·rw [ht, List.append_cancel_left_eq] at h3
    rw [c2, h3] at hno
    exact (hno (by simp)).elim
  ·obtain ⟨e1, e2, e3⟩ := Zh1 h1 h2
   have hs1 : (Z68 (cutP s Q1m).1).1.size ≤ s.size ∧ (Z68 (cutP s Q1m).1).2.1.size ≤ s.size := by
    have := congrArg List.length h1
    rw [List.length_append, List.length_cons] at this
    have e4 := Zb (cutP s Q1m).1
    rw [Zb, Zb (Z68 (cutP s Q1m).1).2.1, e1, e2]
    omega
   simp only [e3, Bool.not_true, cb_f, Z3b, ob_s, Z8z, Z3]
   by_cases h0 : labF ((Z68 (cutP s Q1m).1).1, (Z68 (cutP s Q1m).1).2.1) = 0
   ·rw [if_pos h0]
    simp only [ob_s, if_true]
    rw [hw _ hs1.1 hs1.2, ob_s]
    refine ⟨true, congrArg some (decide_eq_true (Zep ?_)), fun _ => ⟨_, _, ?_, ?_, h0⟩, fun _ => rfl⟩
    ·rw [hLw, e1, e2, ← h1, c2, ht]
    ·rw [e1, e2, ← h1, c2, ht]
    ·rw [e1]; exact h2
   ·rw [if_neg h0]
    simp only [ob_s]
    rw [if_neg (by decide)]
    refine ⟨false, rfl, fun h => (by cases h), fun ⟨x, y, h3, h4, h5⟩ => ?_⟩
    rw [ht, List.append_cancel_left_eq, ← c2] at h3
    obtain ⟨f1, f2, _⟩ := Zh1 h3 h4
    rw [Zep f1, Zep f2] at h0
    exact absurd h5 h0
 ·have hnl : ¬ IsLab s := fun ⟨x, y, h3, _, _⟩ => hp ⟨_, h3⟩
  rw [Zh2 hp]
  simp only [cb_f]
  have fin : ∀ a : ByteArray × ByteArray, a.1.size ≤ s.size → a.2.size ≤ s.size → (ob (ob (Qw.f a) fun r16 => (cb (!decide (r16 = (0 : Int))) (some ((bs_, bs_), (10 : Int))) (some (a, (0 : Int))))) fun r1 => (cb (decide (r1.2 = (0 : Int))) (ob (Q1r.f r1.1) fun r2 => (some (decide (r2 = s)))) (some false))) = some false := fun a h1 h2 => by
   rw [Z3b, ob_s, Z8z, Z3]
   by_cases h0 : labF a = 0
   ·rw [if_pos h0]
    simp only [ob_s, Z3, if_true]
    rw [hw a h1 h2, ob_s]
    refine congrArg some (decide_eq_false fun e => ?_)
    have e2 := congrArg (fun b : ByteArray => b.data.toList) e
    simp only [hLw] at e2
    exact hp ⟨_, e2.symm⟩
   ·rw [if_neg h0]
    simp only [ob_s, Z3]
    rw [if_neg (by decide)]
  refine ⟨false, ?_, fun h => (by cases h), fun h => absurd h hnl⟩
  by_cases hq : ∃ t, s.data.toList = Q2d.data.toList ++ t
  ·obtain ⟨t, ht⟩ := hq
   obtain ⟨c1, c2⟩ := Zde ht
   rw [c1, cb_t]
   refine fin (bs_, (cutP s Q2d).1) (Nat.zero_le _) ?_
   show (cutP s Q2d).1.size ≤ _
   rw [Zb, c2]
   have := congrArg List.length ht
   rw [List.length_append] at this
   omega
  ·rw [Zh2 hq, cb_f]
   exact fin (bs_, bs_) (Nat.zero_le _) (Nat.zero_le _)
end Go.Proofs.YtahlodpolggeiaaGreatDoor
set_option linter.unusedVariables false
set_option linter.unusedSimpArgs false
namespace Go.Proofs.YtahlodpolggeiaaGreatDoor
open Go Go.Lib Go.Proofs.YtahlodpolggeiaaGreatDoor.Eng
abbrev Wr := ByteArray × (ByteArray × ((List ByteArray) × (Int × Int)))
theorem Zjl {β : Type} {c : Prop} {a : Option β} (h : ¬ c) : ck c a = none := by unfold ck; rw [if_neg h]
theorem Z3m (s p : ByteArray) : Qz.f s p = some (hasP s p) := by
 unfold Qz.f
 rw [Z6l]; rfl
theorem hasP_ne {s : ByteArray} (h : hasP s Q1m = true) : s ≠ bs_ := fun e => by
 rw [e] at h
 exact absurd h (by decide)
theorem Zi7 {w : Wr} (hw : ∀ y ∈ w.2.2.1, y.size ≤ BIG) (x : Int) : Qa.s0 w w.2.2.1 (w.2.2.1.length : Int) x = Qb.s0 w.2.2.1 w.2.2.1 (w.2.2.1.length : Int) x := by
 unfold Qa.s0 Qb.s0
 simp only [Z3]
 by_cases h1 : x < (w.2.2.1.length : Int)
 ·rw [if_pos h1, if_pos h1]
  by_cases h2 : 0 ≤ x
  ·obtain ⟨k, rfl⟩ : ∃ k : Nat, x = k := ⟨x.toNat, by omega⟩
   have hk : k < w.2.2.1.length := by omega
   have c0 : 0 ≤ (k : Int) ∧ (k : Int) < (w.2.2.1.length : Int) := ⟨h2, h1⟩
   simp only [Z0 c0, Z16 hk, Z3m, ob_s, Z45, Z72 (hw _ (List.getElem_mem hk))]
   cases hp : hasP w.2.2.1[k] Q1m with
   | false => rfl
   | true => rw [decide_eq_false (hasP_ne hp), Bool.not_false, Bool.and_true]
  ·have c0 : ¬ (0 ≤ x ∧ x < (w.2.2.1.length : Int)) := fun h => h2 h.1
   simp only [Zjl c0]
 ·rw [if_neg h1, if_neg h1]
theorem Zi8 {l : List ByteArray} (hl : l.length ≤ 1000) (hw : ∀ y ∈ l, y.size ≤ BIG) : ∀ (n k : Nat), l.length - k = n → ∃ r, Qb.l0 l l (l.length : Int) (k : Int) = some r ∧ (r = .inr () ∨ r = .inl 3 ∨ r = .inl 8) := by
 intro n
 induction n with
 | zero =>
  intro k hn
  refine ⟨.inr (), Z1 ?_, .inl rfl⟩
  simp only [Qb.s0, Z3]
  rw [if_neg (by omega)]
 | succ n ih =>
  intro k hn
  have hk : k < l.length := by omega
  have c0 : 0 ≤ (k : Int) ∧ (k : Int) < (l.length : Int) := by omega
  have c1 : InR ((k : Int) + 1) := ⟨by omega, by omega⟩
  obtain ⟨r, r1, r2⟩ := ih (k + 1) (by omega)
  have hnext : Qb.s0 l l (l.length : Int) (k : Int) = some (.inl ((k : Int) + 1)) → ∃ r, Qb.l0 l l (l.length : Int) (k : Int) = some r ∧ (r = .inr () ∨ r = .inl 3 ∨ r = .inl 8) := fun h => ⟨r, (Z4 h).trans r1, r2⟩
  have hstop : ∀ f : Int, (f = 3 ∨ f = 8) → Qb.s0 l l (l.length : Int) (k : Int) = some (.inr (.inl f)) → ∃ r, Qb.l0 l l (l.length : Int) (k : Int) = some r ∧ (r = .inr () ∨ r = .inl 3 ∨ r = .inl 8) := fun f hf h => ⟨.inl f, Z1 h, .inr (hf.imp (fun e => by rw [e]) (fun e => by rw [e]))⟩
  have hs : Qb.s0 l l (l.length : Int) (k : Int) = (cb (!hasP l[k] Q1m) (some (.inr (.inl 3))) (cb (decide ((1000 : Int) < ((l[k].size : Nat) : Int))) (some (.inr (.inl 3))) (cb (!(Z3n l[k] && !decide (l[k] = bs_))) (some (.inr (.inl 3))) (cb (decide ((0 : Int) < (k : Int))) (ck (InR ((k : Int) - 1)) (ck (0 ≤ (k : Int) - 1 ∧ (k : Int) - 1 < (l.length : Int)) (cb (Z4e l[k] (rd ByteArray.empty l ((k : Int) - 1)) || decide (l[k] = (rd ByteArray.empty l ((k : Int) - 1)))) (some (.inr (.inl 8))) (some (.inl ((k : Int) + 1)))))) (some (.inl ((k : Int) + 1))))))) := by
   simp only [Qb.s0, Z16 hk, Z3m, Z72 (hw _ (List.getElem_mem hk)), ob_s, Z0 c0, Z0 c1]
   rw [Z3, if_pos c0.2]
  cases b1 : hasP l[k] Q1m with
  | false => exact hstop 3 (.inl rfl) (by rw [hs, b1]; rfl)
  | true =>
   by_cases b2 : (1000 : Int) < ((l[k].size : Nat) : Int)
   ·exact hstop 3 (.inl rfl) (by rw [hs, b1, decide_eq_true b2]; rfl)
   ·cases b3 : (Z3n l[k] && !decide (l[k] = bs_)) with
    | false => exact hstop 3 (.inl rfl) (by rw [hs, b1, decide_eq_false b2, b3]; rfl)
    | true =>
     by_cases b4 : (0 : Int) < (k : Int)
     ·cases b5 : (Z4e l[k] (rd ByteArray.empty l ((k : Int) - 1)) || decide (l[k] = (rd ByteArray.empty l ((k : Int) - 1)))) with
      | true => exact hstop 8 (.inr rfl) (by
        rw [hs, b1, decide_eq_false b2, b3, decide_eq_true b4, b5]
        simp only [Bool.not_true, cb_f, cb_t]
        rw [Zn (by omega) (by omega), Z0 (by omega)])
      | false => exact hnext (by
        rw [hs, b1, decide_eq_false b2, b3, decide_eq_true b4, b5]
        simp only [Bool.not_true, cb_f, cb_t]
        rw [Zn (by omega) (by omega), Z0 (by omega)])
     ·exact hnext (by rw [hs, b1, decide_eq_false b2, b3, decide_eq_false b4]; rfl)
theorem prefs {w : Wr} (hw : ∀ y ∈ w.2.2.1, y.size ≤ BIG) : ∃ r : Int, Qb.f w.2.2.1 = some r ∧ ∀ X : Option Int, (cb (decide ((30 : Int) < ((w.2.2.1.length : Nat) : Int))) (some (2 : Int)) (ob (Qa.l0 w w.2.2.1 ((w.2.2.1.length : Nat) : Int) (0 : Int)) fun r15 => (Z31 r15 (fun a16 => (some a16)) (fun b17 => X)))) = if r = 0 then X else some r := by
 have hloop : Qa.l0 w w.2.2.1 ((w.2.2.1.length : Nat) : Int) 0 = Qb.l0 w.2.2.1 w.2.2.1 ((w.2.2.1.length : Nat) : Int) 0 := by
  unfold Qa.l0 Qb.l0
  congr 1
  funext x
  exact Zi7 hw x
 unfold Qb.f
 rw [hloop]
 simp only [Z3]
 by_cases h1 : (30 : Int) < ((w.2.2.1.length : Nat) : Int)
 ·rw [if_pos h1]
  exact ⟨2, rfl, fun X => by rw [if_pos h1, if_neg (by decide)]⟩
 ·rw [if_neg h1]
  obtain ⟨r, r1, r2⟩ := Zi8 (l := w.2.2.1) (by omega) hw w.2.2.1.length 0 (by omega)
  rw [show ((0 : Nat) : Int) = 0 from rfl] at r1
  rw [r1]
  rcases r2 with rfl | rfl | rfl
  ·exact ⟨0, rfl, fun X => by rw [if_neg h1, if_pos rfl]; rfl⟩
  ·exact ⟨3, rfl, fun X => by rw [if_neg h1, if_neg (by decide)]; rfl⟩
  ·exact ⟨8, rfl, fun X => by rw [if_neg h1, if_neg (by decide)]; rfl⟩
def szW (w : Wr) : Prop := w.1.size ≤ 100000000000 ∧ w.2.1.size ≤ 100000000000 ∧ ∀ y ∈ w.2.2.1, y.size ≤ 100000000000
theorem Z1t (a b c : Int) : Q14.f a b c = some (decide (b ≤ a ∧ a ≤ c)) := by
 unfold Q14.f
 rw [Z3]
 by_cases h : b ≤ a <;> simp [h]
theorem Zca {s : ByteArray} (hs : s.size ≤ BIG) : ∃ b, Q1o.f s = some b := by
 unfold Q1o.f
 rw [Z72 hs, ob_s]
 cases (Z3n s && !decide (s = bs_)) <;> exact ⟨_, rfl⟩
end Go.Proofs.YtahlodpolggeiaaGreatDoor
set_option linter.unusedVariables false
set_option linter.unusedSimpArgs false
namespace Go.Proofs.YtahlodpolggeiaaGreatDoor
open Go Go.Lib Go.Proofs.YtahlodpolggeiaaGreatDoor.Eng
def labs (g : List Wr) : List ByteArray := g.map (·.1)
theorem Z2g {g : List Wr} {k : Nat} (h : k < g.length) : (labs g)[k]'(by unfold labs; simpa using h) = g[k].1 := by simp [labs]
theorem Z9o (n : Wr) (s : ByteArray) : Q1v.f n s = some (cmpS n.1 s) := rfl
theorem half {a b : Nat} (ha : a ≤ 100000000000) (hb : b ≤ 100000000000) : IntKind.i64.wrap (Int.fdiv (IntKind.u64.wrap ((a : Int) + (b : Int))) (2 ^ min (Int.toNat (1 : Int)) (IntKind.bits .u64))) = ((a + b) / 2 : Nat) := by
 have e1 : IntKind.u64.wrap ((a : Int) + (b : Int)) = ((a + b : Nat) : Int) := by
  simp only [IntKind.wrap, IntKind.bits, IntKind.signed, Bool.false_and, Bool.false_eq_true, if_false]
  have e : (2 : Int) ^ 64 = 18446744073709551616 := by decide
  rw [e]; omega
 have e2 : (2 : Int) ^ min (Int.toNat (1 : Int)) (IntKind.bits .u64) = 2 := by decide
 rw [e1, e2]
 have e3 : Int.fdiv ((a + b : Nat) : Int) 2 = ((a + b) / 2 : Nat) := by
  rw [Int.fdiv_eq_ediv_of_nonneg _ (by decide)]; omega
 rw [e3]
 exact IntWalk.i64_in _ ⟨by omega, by omega⟩
theorem Zco {g : List Wr} (hl : g.length ≤ 1000) (hr : Rising (labs g)) (s : ByteArray) : ∃ r, Q1q.f g s = some r ∧ ((r.2 = false ∧ ∀ k : Nat, ∀ h : k < g.length, g[k].1 ≠ s) ∨ ∃ k : Nat, ∃ h : k < g.length, r = (g[k], true) ∧ g[k].1 = s) := by
 have go : ∀ (n a b : Nat), b - a = n → a ≤ b → b ≤ g.length → (∀ k : Nat, ∀ h : k < g.length, k < a → cmpS g[k].1 s < 0) → (∀ k : Nat, ∀ h : k < g.length, b ≤ k → ¬ cmpS g[k].1 s < 0) →
   ∃ c : Nat, Q0.l0 g s (a : Int) (b : Int) = some (c : Int) ∧ c ≤ g.length ∧ (∀ k : Nat, ∀ h : k < g.length, k < c → cmpS g[k].1 s < 0) ∧ (∀ k : Nat, ∀ h : k < g.length, c ≤ k → ¬ cmpS g[k].1 s < 0) := by
  intro n
  induction n using Nat.strongRecOn with
  | _ n ih =>
   intro a b hn hab hb h1 h2
   rcases Nat.lt_or_ge a b with hlt | hge
   ·have hm : (a + b) / 2 < g.length := by omega
    have hh := half (a := a) (b := b) (by omega) (by omega)
    have hmono : ∀ i j : Nat, ∀ hi : i < g.length, ∀ hj : j < g.length, i < j → cmpS g[i].1 g[j].1 < 0 := fun i j hi hj hij => by
     have := hr i j (by unfold labs; simpa using hj) hij
     rw [Z2g hi, Z2g hj] at this
     exact this
    by_cases hc : cmpS g[(a + b) / 2].1 s < 0
    ·obtain ⟨c, h3, h4⟩ := ih (b - ((a + b) / 2 + 1)) (by omega) ((a + b) / 2 + 1) b rfl (by omega) hb (fun k hk hka => by
      rcases Nat.lt_or_ge k ((a + b) / 2) with h | h
      ·exact Z69 (hmono k _ hk hm h) hc
      ·have : k = (a + b) / 2 := by omega
       subst this; exact hc) h2
     refine ⟨c, (Z4 ?_).trans h3, h4⟩
     simp only [Q0.s0, Z3, hh, Z16 hm, Z9o, ob_s]
     rw [if_pos (by omega), Zn (by omega) (by omega), Z0 (by omega), if_pos hc, Zn (by omega) (by omega)]
     rfl
    ·obtain ⟨c, h3, h4⟩ := ih ((a + b) / 2 - a) (by omega) a ((a + b) / 2) rfl (by omega) (by omega) h1 (fun k hk hka => by
      intro h
      rcases Nat.lt_or_ge ((a + b) / 2) k with h5 | h5
      ·exact hc (Z69 (hmono _ k hm hk h5) h)
      ·have : k = (a + b) / 2 := by omega
       subst this; exact hc h)
     refine ⟨c, (Z4 ?_).trans h3, h4⟩
     simp only [Q0.s0, Z3, hh, Z16 hm, Z9o, ob_s]
     rw [if_pos (by omega), Zn (by omega) (by omega), Z0 (by omega), if_neg hc]
   ·have e : a = b := by omega
    subst e
    refine ⟨a, Z1 ?_, hb, h1, h2⟩
    simp only [Q0.s0, Z3]
    rw [if_neg (by omega)]
 obtain ⟨c, h1, h2, h3, h4⟩ := go _ 0 g.length rfl (Nat.zero_le _) (Nat.le_refl _) (fun k _ h => absurd h (Nat.not_lt_zero _)) (fun k hk h => by omega)
 rw [show ((0 : Nat) : Int) = 0 from rfl] at h1
 unfold Q1q.f Q0.f
 simp only [h1, ob_s, Z3]
 by_cases hc : c < g.length
 ·rw [if_pos (by omega), Z0 (by omega)]
  simp only [Z16 hc, Z9o, ob_s]
  by_cases h0 : cmpS g[c].1 s = 0
  ·simp only [h0, decide_true, Bool.not_true, cb_f]
   rw [Z0 (by omega)]
   exact ⟨_, rfl, .inr ⟨c, hc, rfl, (Z4a _ _).1 h0⟩⟩
  ·simp only [h0, decide_false, Bool.not_false, cb_t]
   refine ⟨_, rfl, .inl ⟨rfl, fun k hk e => ?_⟩⟩
   have hz : cmpS g[k].1 s = 0 := (Z4a _ _).2 e
   rcases Nat.lt_trichotomy k c with h | h | h
   ·have := h3 k hk h; omega
   ·subst h; exact h0 hz
   ·have h5 := hr c k (by unfold labs; simpa using hk) h
    rw [Z2g hc, Z2g hk, e] at h5
    exact h4 c hc (Nat.le_refl _) h5
 ·rw [if_neg (by omega)]
  simp only [ob_s, Bool.not_false, cb_t]
  refine ⟨_, rfl, .inl ⟨rfl, fun k hk e => ?_⟩⟩
  have hz : cmpS g[k].1 s = 0 := (Z4a _ _).2 e
  have := h3 k hk (by omega)
  omega
def mayB (w : Wr) (s : ByteArray) (t : Int) : Bool := decide (w.2.2.2.1 ≤ t) && (decide (t < w.2.2.2.2) && w.2.2.1.any (fun p => hasP s p))
theorem Zjf {w : Wr} (hw : w.2.2.1.length ≤ 100000000000) (s : ByteArray) (t : Int) : Q23.f w s t = some (mayB w s t) := by
 have go : ∀ (n k : Nat), w.2.2.1.length - k = n → ∃ r, Q4.l0 w.2.2.1 s (w.2.2.1.length : Int) (k : Int) = some r ∧ ((r = .inr () ∧ (w.2.2.1.drop k).any (fun p => hasP s p) = false) ∨ ∃ i : Nat, r = .inl (i : Int) ∧ (w.2.2.1.drop k).any (fun p => hasP s p) = true) := by
  intro n
  induction n with
  | zero =>
   intro k hn
   refine ⟨.inr (), Z1 ?_, .inl ⟨rfl, by rw [List.drop_eq_nil_of_le (by omega)]; rfl⟩⟩
   simp only [Q4.s0, Z3]
   rw [if_neg (by omega)]
  | succ n ih =>
   intro k hn
   have hlt : k < w.2.2.1.length := by omega
   rw [List.drop_eq_getElem_cons hlt, List.any_cons]
   cases e : hasP s w.2.2.1[k] with
   | true =>
    refine ⟨.inl (k : Int), Z1 ?_, .inr ⟨k, rfl, rfl⟩⟩
    simp only [Q4.s0, Z3, Z16 hlt, Q22.f, Z3m, e, ob_s, cb_t]
    rw [if_pos (by omega), Z0 (by omega)]
   | false =>
    obtain ⟨r, h1, h2⟩ := ih (k + 1) (by omega)
    refine ⟨r, (Z4 ?_).trans h1, by simpa using h2⟩
    simp only [Q4.s0, Z3, Z16 hlt, Q22.f, Z3m, e, ob_s, cb_f]
    rw [if_pos (by omega), Z0 (by omega), Zn (by omega) (by omega)]
    rfl
 obtain ⟨r, h1, h2⟩ := go _ 0 rfl
 rw [show ((0 : Nat) : Int) = 0 from rfl, List.drop_zero] at *
 have hc : Qf.f w.2.2.1 s = some (w.2.2.1.any (fun p => hasP s p)) := by
  unfold Qf.f Q4.f
  simp only [h1, ob_s]
  rcases h2 with ⟨rfl, h3⟩ | ⟨i, rfl, h3⟩
  ·rw [h3]; rfl
  ·rw [h3]
   simp only [Zcw, ob_s]
   rw [decide_eq_true (by omega)]
 unfold Q23.f mayB
 simp only [hc, ob_s]
 cases decide (w.2.2.2.1 ≤ t) with
 | false => rfl
 | true =>
  cases decide (t < w.2.2.2.2) with
  | false => rfl
  | true => rfl
end Go.Proofs.YtahlodpolggeiaaGreatDoor
set_option linter.unusedVariables false
set_option linter.unusedSimpArgs false
namespace Go.Proofs.YtahlodpolggeiaaGreatDoor
open Go Go.Lib Go.Proofs.YtahlodpolggeiaaGreatDoor.Eng
theorem Zh7 {β : Type} {c : Prop} [h : Decidable c] {a : Option β} : ck c a = if c then a else none := by
 by_cases hc : c
 ·rw [Z0 hc, if_pos hc]
 ·rw [Zjl hc, if_neg hc]
local instance (x : Int) : Decidable (InR x) := inferInstanceAs (Decidable (_ ∧ _))
theorem Z8m {s : ByteArray} (hs : s.size ≤ 100000000000) (h : Lib.countByte s.data.toList 47 = 0) : Z1u s = [s] := by
 have h1 : Q1f.f s Q2e = some [s] := by
  have hcnt : Q29.f s Q2e = some 0 := by
   unfold Q29.f
   rw [Z0 (by rfl)]
   show some ((Lib.countByte s.data.toList 47 : Nat) : Int) = _
   rw [h]; rfl
  have l : Qi.l0 Q2e 0 (1 - 1) s 0 (List.replicate 1 ByteArray.empty) = some (s, 0, List.replicate 1 ByteArray.empty) := Z1 (by rfl)
  have e : ((min (0 + 1) (((s.size : Nat) : Int) + 1) : Int)) = 1 := by omega
  have e1 : Int.toNat 1 = 1 := rfl
  unfold Q1f.f Qi.f
  simp only [hcnt, ob_s, e, e1, l]
  rw [show decide ((-1 : Int) = 0) = false from rfl, cb_f, show decide (Q2e = bs_) = false from rfl, cb_f, show decide ((-1 : Int) < 0) = true from rfl, cb_t, Zn (by omega) (by omega), Zn (by omega) (by omega), Z0 (by omega), Zn (by omega) (by omega)]
  simp only [Zh7]
  rfl
 unfold Z1u
 rw [h1]; rfl
abbrev W1 : Wr := (Q2f, (Q2h, ([Q20], (0, 5))))
theorem writer1 : Qa.f W1 = some 0 := by
 have l : Qa.l0 W1 [Q20] 1 0 = some (.inr ()) := by
  refine (Z4 (x' := 1) ?_).trans (Z1 (by rfl))
  have e : rd ByteArray.empty [Q20] 0 = Q20 := rfl
  simp only [Qa.s0, e, Z3m, Z45, ob_s, show hasP Q20 Q1m = true from by decide, show Z3n Q20 = true from by decide, Zh7]
  rfl
 have s1 : Q1e.f Q2h = some true := by
  unfold Q1e.f
  rw [Z45, show Z3n Q2h = true from by decide]
  rfl
 unfold Qa.f
 simp only [Z5c, show Z93 Q2f = true from by decide, s1, ob_s, Z1t]
 show cb _ _ (cb _ _ (cb _ _ (ob (Qa.l0 W1 [Q20] 1 0) _))) = _
 rw [l]
 rfl
theorem check1 : Q6.f [W1] = some 0 := by
 have l : Q6.l0 [W1] [W1] 1 0 = some (.inr ()) := by
  refine (Z4 (x' := 1) ?_).trans (Z1 (by rfl))
  have e : rd (ByteArray.empty, (ByteArray.empty, (([] : List ByteArray), ((0 : Int), (0 : Int))))) [W1] 0 = W1 := rfl
  simp only [Q6.s0, e, writer1, ob_s, Zh7]
  rfl
 unfold Q6.f
 show cb _ _ (ob (Q6.l0 [W1] [W1] 1 0) _) = _
 rw [l]
 rfl
def Q2k : ByteArray := ⟨#[97, 112, 112, 108, 101]⟩
def Q2l : ByteArray := ⟨#[120]⟩
theorem whole1 : Q1b.f Q13 = some true := by
 obtain ⟨b, h1, h2⟩ := Za3 (s := Q13) (by decide)
 have : b = true := h2.2 ⟨Q2k, Q2l, rfl, by decide, by
  unfold labF Z2q
  rw [Z8m (s := Q2k) (by decide) (by decide), Z8m (s := Q2l) (by decide) (by decide)]
  rfl⟩
 rw [h1, this]
theorem may1 (t : Int) (h0 : 0 ≤ t) (h1 : t ≤ 1000000000) : Q24.f [W1] Q2f Q13 t = some (mayB W1 Q13 t, 0) := by
 have hr : Rising (labs [W1]) := fun i j h h' => by
  have : j < 1 := h
  omega
 obtain ⟨r, r1, r2⟩ := Zco (g := [W1]) (by decide) hr Q2f
 have hr2 : r = (W1, true) := by
  rcases r2 with ⟨_, h⟩ | ⟨k, hk, e, _⟩
  ·exact absurd rfl (h 0 (by decide))
  ·have : k = 0 := by simp at hk; exact hk
   subst this
   exact e
 unfold Q24.f
 simp only [check1, ob_s, Z5c, show Z93 Q2f = true from by decide, whole1, Z1t, decide_eq_true (show 0 ≤ t ∧ t ≤ 1000000000 from ⟨h0, h1⟩), r1, hr2, Zjf (w := W1) (by decide)]
 rfl
theorem awake11 : Q1t.f = some true := by
 have m1 : mayB W1 Q13 4 = true := by decide
 have m2 : mayB W1 Q13 5 = false := by decide
 have a1 := may1 4 (by decide) (by decide)
 have a2 := may1 5 (by decide) (by decide)
 rw [m1] at a1
 rw [m2] at a2
 unfold Q1t.f
 show ob (Q24.f [W1] Q2f Q13 4) _ = _
 rw [a1, ob_s]
 show ob (Q24.f [W1] Q2f Q13 5) _ = _
 rw [a2, ob_s]
 rfl
end Go.Proofs.YtahlodpolggeiaaGreatDoor
set_option linter.unusedVariables false
set_option linter.unusedSimpArgs false
namespace Go.Proofs.YtahlodpolggeiaaGreatDoor
open Go Go.Lib Go.Proofs.YtahlodpolggeiaaGreatDoor.Eng
abbrev Cl := ByteArray × (ByteArray × (ByteArray × (ByteArray × (Int × ((List ByteArray) × ByteArray)))))
def szC (c : Cl) : Prop := c.2.1.size ≤ BIG
abbrev hexCs : ByteArray := Qg
def digC (c : UInt8) : Bool := decide (48 ≤ c.toNat ∧ c.toNat ≤ 57) || decide (97 ≤ c.toNat ∧ c.toNat ≤ 102)
theorem digC_eq (c : UInt8) : hexCs.data.toList.contains c = digC c := by
 have h : ((List.range 256).all fun n => hexCs.data.toList.contains (UInt8.ofNat n) == digC (UInt8.ofNat n)) = true := by decide +kernel
 have := List.all_eq_true.1 h c.toNat (List.mem_range.2 c.toNat_lt)
 simpa using this
def digB (s : ByteArray) : Bool := decide (s.size = 16) && s.data.toList.all digC
theorem Z1q (s : ByteArray) : Q18.f s = some (digB s) := by
 unfold Q18.f digB
 simp only [Z3]
 by_cases h : s.size = 16
 ·rw [if_pos (by omega)]
  unfold Q28.f
  rw [Z0 ⟨by omega, by decide, by decide +kernel⟩, ob_s]
  congr 1
  rw [decide_eq_true h, Bool.true_and]
  have e : (⟨(trimS s.data.toList hexCs.data.toList).toArray⟩ = bs_) ↔ s.data.toList.all digC = true := by
   rw [show (s.data.toList.all digC = true) ↔ (s.data.toList.all (fun c => hexCs.data.toList.contains c) = true) by simp only [digC_eq], ← Zd1]
   constructor
   ·intro h
    have := congrArg (fun b : ByteArray => b.data.toList) h
    simpa [bs_] using this
   ·intro h
    rw [h]; rfl
  cases hh : s.data.toList.all digC with
  | true => exact decide_eq_true (e.2 hh)
  | false => exact decide_eq_false (fun h => by rw [e.1 h] at hh; cases hh)
 ·rw [if_neg (by omega), decide_eq_false h]; rfl
theorem Z3r {s : ByteArray} (h : digB s = true) : s.size = 16 := by
 unfold digB at h
 simp only [Bool.and_eq_true, decide_eq_true_eq] at h
 exact h.1
theorem Zdp {s : ByteArray} (h : Z93 s = true) : s.size ≤ 40 := by
 unfold Z93 at h
 split at h
 ·rename_i h1; exact h1.2
 ·cases h
theorem Zhr {c : Cl} (hn : c.2.2.2.2.2.1.length ≤ 50) : ∀ (n k : Nat), c.2.2.2.2.2.1.length - k = n → ∃ r, Q9.l0 c c.2.2.2.2.2.1 (c.2.2.2.2.2.1.length : Int) (k : Int) = some r ∧ ((r = .inr () ∧ ∀ j : Nat, ∀ h : j < c.2.2.2.2.2.1.length, k ≤ j → digB c.2.2.2.2.2.1[j] = true) ∨ ∃ f : Int, f ≠ 0 ∧ r = .inl f) := by
 intro n
 induction n with
 | zero =>
  intro k hk
  refine ⟨.inr (), Z1 ?_, .inl ⟨rfl, fun j h1 h2 => by omega⟩⟩
  simp only [Q9.s0, Z3]
  rw [if_neg (by omega)]
 | succ n ih =>
  intro k hk
  have hlt : k < c.2.2.2.2.2.1.length := by omega
  obtain ⟨r, h1, h2⟩ := ih (k + 1) (by omega)
  have e : ((k : Int) + 1) = ((k + 1 : Nat) : Int) := by omega
  by_cases hd : digB c.2.2.2.2.2.1[k] = true
  ·have next : Q9.s0 c c.2.2.2.2.2.1 (c.2.2.2.2.2.1.length : Int) (k : Int) = some (.inl ((k + 1 : Nat) : Int)) ∨ Q9.s0 c c.2.2.2.2.2.1 (c.2.2.2.2.2.1.length : Int) (k : Int) = some (.inr (.inl 8)) := by
    simp only [Q9.s0, Z3]
    rw [if_pos (by omega), Z0 ⟨by omega, by omega⟩, Z16 hlt]
    simp only [Z1q, hd, ob_s, Bool.not_true, cb_f]
    by_cases h0 : 0 < k
    ·rw [if_pos (by omega), Zn (by omega) (by omega), Z0 ⟨by omega, by omega⟩]
     cases Z4e c.2.2.2.2.2.1[k] (rd ByteArray.empty c.2.2.2.2.2.1 ((k : Int) - 1)) || decide (c.2.2.2.2.2.1[k] = rd ByteArray.empty c.2.2.2.2.2.1 ((k : Int) - 1)) with
     | true => exact .inr rfl
     | false => rw [cb_f, Zn (by omega) (by omega), e]; exact .inl rfl
    ·rw [if_neg (by omega), Zn (by omega) (by omega), e]; exact .inl rfl
   rcases next with hs | hs
   ·refine ⟨r, (Z4 hs).trans h1, ?_⟩
    rcases h2 with ⟨h2, h3⟩ | h2
    ·refine .inl ⟨h2, fun j hj hkj => ?_⟩
     rcases Nat.eq_or_lt_of_le hkj with rfl | h4
     ·exact hd
     ·exact h3 j hj h4
    ·exact .inr h2
   ·exact ⟨.inl 8, Z1 hs, .inr ⟨8, by decide, rfl⟩⟩
  ·refine ⟨.inl 3, Z1 ?_, .inr ⟨3, by decide, rfl⟩⟩
   simp only [Q9.s0, Z3]
   rw [if_pos (by omega), Z0 ⟨by omega, by omega⟩, Z16 hlt]
   simp only [Z1q, Bool.not_eq_true _ ▸ hd, ob_s]
   rfl
structure OkC (c : Cl) : Prop where
 key : digB c.1 = true
 label : c.2.1.size ≤ 403
 whole : Q1b.f c.2.1 = some true
 result : digB c.2.2.1 = true
 writer : Z93 c.2.2.2.1 = true
 at0 : 0 ≤ c.2.2.2.2.1
 at1 : c.2.2.2.2.1 ≤ 1000000000
 many : c.2.2.2.2.2.1.length ≤ 50
 uses : ∀ y ∈ c.2.2.2.2.2.1, y.size = 16
 sign : c.2.2.2.2.2.2.size ≤ 16
theorem IsLab.size {s : ByteArray} (h : IsLab s) : s.size ≤ 403 := by
 obtain ⟨x, y, h1, h2, h3⟩ := h
 have hp : ∀ z : ByteArray, Z2q z = true → z.size ≤ 200 := fun z hz => by
  unfold Z2q at hz
  split at hz
  ·rename_i h; exact h.2
  ·cases hz
 unfold labF at h3
 split at h3
 ·rename_i h4
  have hx : x.size ≤ 200 := by
   rcases h4.1 with h5 | h5
   ·have h5 : x = bs_ := h5
    rw [h5]; decide
   ·exact hp _ h5
  have hy := hp _ h4.2
  have hl := congrArg List.length h1
  simp only [List.length_append, List.length_cons, List.length_nil] at hl
  rw [← Zb, ← Zb, ← Zb] at hl
  have hx : ByteArray.size x ≤ 200 := hx
  have hy : ByteArray.size y ≤ 200 := hy
  omega
 ·cases h3
theorem Zjm {c : Cl} (hs : szC c) : ∃ f : Int, Q9.f c = some f ∧ (f = 0 → OkC c) := by
 obtain ⟨b, hb, hbl⟩ := Za3 (s := c.2.1) hs
 unfold Q9.f
 simp only [Z1q, Z5c, Z1t, hb, ob_s, Z8z]
 cases g1 : digB c.1 with
 | false => exact ⟨3, rfl, fun h => by cases h⟩
 | true =>
  cases b with
  | false => exact ⟨10, rfl, fun h => by cases h⟩
  | true =>
   have gl := IsLab.size (hbl.1 rfl)
   cases g3 : digB c.2.2.1 with
   | false => exact ⟨3, rfl, fun h => by cases h⟩
   | true =>
    cases g4 : Z93 c.2.2.2.1 with
    | false => exact ⟨5, rfl, fun h => by cases h⟩
    | true =>
     simp only [cb_t, Z3]
     by_cases g5 : (0 : Int) ≤ c.2.2.2.2.1 ∧ c.2.2.2.2.1 ≤ 1000000000
     ·rw [if_pos g5]
      by_cases g6 : 50 < c.2.2.2.2.2.1.length
      ·rw [if_pos (by omega)]
       exact ⟨2, rfl, fun h => by cases h⟩
      ·rw [if_neg (by omega)]
       obtain ⟨r, h8, h9⟩ := Zhr (c := c) (by omega) _ 0 rfl
       rw [show ((0 : Nat) : Int) = 0 from rfl] at h8
       rw [h8, ob_s]
       rcases h9 with ⟨rfl, h9⟩ | ⟨f, hf, rfl⟩
       ·rw [Zcv]
        by_cases g7 : c.2.2.2.2.2.2 = bs_
        ·rw [if_pos g7]
         refine ⟨0, rfl, fun _ => ⟨g1, gl, hb, g3, g4, g5.1, g5.2, by omega, fun y hy => ?_, by rw [g7]; decide⟩⟩
         obtain ⟨j, hj, rfl⟩ := List.getElem_of_mem hy
         exact Z3r (h9 j hj (Nat.zero_le _))
        ·rw [if_neg g7]
         cases g8 : digB c.2.2.2.2.2.2 with
         | false => exact ⟨3, rfl, fun h => by cases h⟩
         | true =>
          refine ⟨0, rfl, fun _ => ⟨g1, gl, hb, g3, g4, g5.1, g5.2, by omega, fun y hy => ?_, by rw [Z3r g8]; decide⟩⟩
          obtain ⟨j, hj, rfl⟩ := List.getElem_of_mem hy
          exact Z3r (h9 j hj (Nat.zero_le _))
       ·rw [Zcw]
        exact ⟨f, rfl, fun h => absurd h hf⟩
     ·rw [if_neg g5]
      exact ⟨1, rfl, fun h => by cases h⟩
theorem join_le (n : Nat) : ∀ xs : List ByteArray, (∀ x ∈ xs, x.size ≤ n) → (Zb8 xs Q2g).size ≤ (n + 1) * xs.length
 | [], _ => Nat.le_refl _
 | x :: r, h => by
  have hs : (Zb8 (x :: r) Q2g).size = x.size + (r.length + Lib.lens (r.map (·.data.toList))) := by
   have e : (Zb8 (x :: r) Q2g).size = (Lib.join ((x :: r).map (·.data.toList)) [32]).length := List.size_toArray ..
   rw [e, List.map_cons, Lib.join_cons, List.length_append, Lib.joinTail_length, ← Zb]
   simp
  have hr : ∀ l : List ByteArray, (∀ y ∈ l, y.size ≤ n) → Lib.lens (l.map (·.data.toList)) ≤ n * l.length := by
   intro l
   induction l with
   | nil => intro _; exact Nat.le_refl _
   | cons y l ih =>
    intro h
    have h1 := ih (fun z hz => h z (List.mem_cons_of_mem _ hz))
    have h2 := h y (List.mem_cons_self ..)
    rw [Zb] at h2
    simp only [Lib.lens, List.map_cons, List.sum_cons, List.length_cons, Nat.mul_succ] at h1 ⊢
    omega
  have h1 := hr r (fun z hz => h z (List.mem_cons_of_mem _ hz))
  have h2 := h x (List.mem_cons_self ..)
  rw [hs, List.length_cons, Nat.mul_succ, Nat.add_mul]
  omega
noncomputable def Z4k (c : Cl) : ByteArray := Zb8 ([c.1, c.2.1, c.2.2.1, c.2.2.2.1, Zb9 c.2.2.2.2.1] ++ c.2.2.2.2.2.1) Q2g
theorem Zg7 {n : Int} (h0 : -9223372036854775808 ≤ n) (h1 : n ≤ 9223372036854775807) : (Zb9 n).size ≤ 21 := by
 have e : (Zb9 n).size = (Lib.itoa n).length := List.size_toArray ..
 rw [e]; exact Lib.itoa_length_le n h0 h1
theorem Zj2 {c : Cl} (hk : OkC c) : Q1y.f c = some (Z4k c) ∧ (Z4k c).size ≤ 1000000 := by
 have ha := hk.at0; have hb := hk.at1; have hm := hk.many
 have hi := Zg7 (n := c.2.2.2.2.1) (by omega) (by omega)
 have hall : ∀ x ∈ [c.1, c.2.1, c.2.2.1, c.2.2.2.1, Zb9 c.2.2.2.2.1] ++ c.2.2.2.2.2.1, x.size ≤ 403 := fun x hx => by
  rcases List.mem_append.1 hx with hx | hx
  ·simp only [List.mem_cons, List.not_mem_nil, or_false] at hx
   rcases hx with rfl | rfl | rfl | rfl | rfl
   ·have := Z3r hk.key; omega
   ·exact hk.label
   ·have := Z3r hk.result; omega
   ·have := Zdp hk.writer; omega
   ·omega
  ·have := hk.uses x hx; omega
 have hle := join_le 403 _ hall
 have hlen : ([c.1, c.2.1, c.2.2.1, c.2.2.2.1, Zb9 c.2.2.2.2.1] ++ c.2.2.2.2.2.1).length = 5 + c.2.2.2.2.2.1.length := by simp; omega
 have hsz : (Z4k c).size ≤ 1000000 := by
  unfold Z4k
  refine Nat.le_trans hle ?_
  rw [hlen]
  omega
 refine ⟨?_, hsz⟩
 unfold Q1y.f Q26.f
 rw [Z0 ⟨by omega, by omega⟩, ob_s, Z0 (by simp; omega)]
 unfold Q27.f
 rw [Z0 ⟨by show List.length ([c.1, c.2.1, c.2.2.1, c.2.2.2.1, Zb9 c.2.2.2.2.1] ++ c.2.2.2.2.2.1) ≤ _; omega, Nat.le_trans (show (Zb8 ([c.1, c.2.1, c.2.2.1, c.2.2.2.1, Zb9 c.2.2.2.2.1] ++ c.2.2.2.2.2.1) Q2g).size ≤ _ from hsz) (by decide)⟩, ob_s]
 rfl
theorem Zh6 (c : Cl) : Q25.f c = Q1y.f c := rfl
end Go.Proofs.YtahlodpolggeiaaGreatDoor
set_option linter.unusedVariables false
set_option linter.unusedSimpArgs false
namespace Go.Proofs.YtahlodpolggeiaaGreatDoor
open Go Go.Lib Go.Proofs.YtahlodpolggeiaaGreatDoor.Eng
theorem wrapU (n : Int) : IntKind.u64.wrap n = n % 18446744073709551616 := by
 simp only [IntKind.wrap, IntKind.bits, IntKind.signed, Bool.false_and, Bool.false_eq_true, if_false]
 have e : (2 : Int) ^ 64 = 18446744073709551616 := by decide
 rw [e]
theorem Zho {n : Int} (h0 : 0 ≤ n) (h1 : n < 18446744073709551616) : IntKind.u64.wrap n = n := by rw [wrapU]; omega
def hstep (h : Int) (c : UInt8) : Int := IntKind.u64.wrap (IntKind.u64.wrap ((BitVec.toNat (BitVec.ofInt (IntKind.bits .u64) h ^^^ BitVec.ofInt (IntKind.bits .u64) (IntKind.u64.wrap ((UInt8.toNat c : Nat) : Int))) : Nat) : Int) * (1099511628211 : Int))
def Zgh (h : Int) : List UInt8 → Int
 | [] => h
 | c :: r => Zgh (hstep h c) r
theorem hashL_in : ∀ (l : List UInt8) (h : Int), 0 ≤ h ∧ h < 18446744073709551616 → 0 ≤ Zgh h l ∧ Zgh h l < 18446744073709551616
 | [], h, hh => hh
 | c :: r, h, _ => hashL_in r _ (by unfold hstep; rw [wrapU]; omega)
theorem Zbd {l : List UInt8} (hl : l.length ≤ BIG) : ∀ (n k : Nat) (h : Int), l.length - k = n → Qj.l0 l (l.length : Int) h (k : Int) = some (Zgh h (l.drop k)) := by
 have hB : BIG = 140737488355328 := rfl
 intro n
 induction n with
 | zero =>
  intro k h hk
  refine Z1 ?_
  simp only [Qj.s0, Z3]
  rw [if_neg (by omega), List.drop_eq_nil_of_le (by omega)]
  rfl
 | succ n ih =>
  intro k h hk
  have hlt : k < l.length := by omega
  have e : ((k : Int) + 1) = ((k + 1 : Nat) : Int) := by omega
  rw [List.drop_eq_getElem_cons hlt]
  refine (Z4 ?_).trans (ih (k + 1) (hstep h l[k]) (by omega))
  simp only [Qj.s0, Z3]
  rw [if_pos (by omega), Z0 ⟨by omega, by omega⟩, Zn (by omega) (by omega), Z16 hlt, e]
  rfl
theorem Zeg (l : List UInt8) (h k : Int) : Qm.l0 l h k = Qj.l0 l (l.length : Int) h k := rfl
def hexD (R k : Nat) : UInt8 := bt hexCs (((R / 16 ^ k % 16 : Nat)) : Int)
def digs (R : Nat) : Nat → List UInt8
 | 0 => []
 | k + 1 => hexD R k :: digs R k
theorem Zf8 {α : Type} (a b : α) (t : List α) : ∀ m : Nat, (List.replicate (m + 1) a ++ t).set m b = List.replicate m a ++ b :: t
 | 0 => rfl
 | m + 1 => by
  rw [List.replicate_succ, List.cons_append, List.set_cons_succ, Zf8 a b t m, List.replicate_succ, List.cons_append]
theorem and15 (x : Nat) (h : x < 18446744073709551616) : IntKind.u64.wrap ((BitVec.toNat (BitVec.ofInt (IntKind.bits .u64) ((x : Nat) : Int) &&& BitVec.ofInt (IntKind.bits .u64) (15 : Int)) : Nat) : Int) = ((x % 16 : Nat) : Int) := by
 have e1 : BitVec.toNat (BitVec.ofInt (IntKind.bits .u64) ((x : Nat) : Int)) = x := by
  rw [BitVec.toNat_ofInt]
  simp only [IntKind.bits]
  omega
 have e2 : BitVec.toNat (BitVec.ofInt (IntKind.bits .u64) (15 : Int)) = 2 ^ 4 - 1 := by decide
 rw [BitVec.toNat_and, e1, e2, Nat.and_two_pow_sub_one_eq_mod, wrapU]
 omega
theorem Ziq {R : Nat} (hR : R < 18446744073709551616) : ∀ (n i : Nat), 16 - i = n → i ≤ 16 → Qj.l1 16 (((R / 16 ^ i : Nat)) : Int) (i : Int) (List.replicate (16 - i) 0 ++ digs R i) = some (digs R 16) := by
 intro n
 induction n with
 | zero =>
  intro i hn hi
  obtain rfl : i = 16 := by omega
  refine Z1 ?_
  simp only [Qj.s1, Z3]
  rw [if_neg (by decide)]
  simp
 | succ n ih =>
  intro i hn hi
  have hlen : (List.replicate (16 - i) (0 : UInt8) ++ digs R i).length = 16 := by
   have : ∀ k, (digs R k).length = k := fun k => by induction k with | zero => rfl | succ k ih => simp [digs, ih]
   rw [List.length_append, this, List.length_replicate]; omega
  have hx : R / 16 ^ i < 18446744073709551616 := Nat.lt_of_le_of_lt (Nat.div_le_self _ _) hR
  refine (Z4 ?_).trans (ih (i + 1) (by omega) (by omega))
  have hsz : ((ByteArray.size Qg : Nat) : Int) = 16 := by decide
  have e1 : (Int.toNat ((15 : Int) - (i : Int))) = 15 - i := by omega
  simp only [Qj.s1, Z3, and15 _ hx, hsz, hlen, e1]
  rw [if_pos (by omega), Zn (by omega) (by omega), Z0 ⟨by omega, by omega⟩, Z0 ⟨by omega, by omega⟩, Z0 (by omega), Zn (by omega) (by omega)]
  congr 3
  ·rw [Int.fdiv_eq_ediv_of_nonneg _ (by decide)]
   have e2 : (2 : Int) ^ min (Int.toNat (4 : Int)) (IntKind.bits .u64) = ((16 : Nat) : Int) := by decide
   rw [e2, ← Int.natCast_ediv, Nat.div_div_eq_div_mul, Nat.pow_succ]
  ·congr 1
   have e3 : 16 - i = (15 - i) + 1 := by omega
   rw [e3, Zf8, show 16 - (i + 1) = 15 - i by omega]
   rfl
theorem hexR : ∀ d : Nat, d < 16 → (ByteArray.extract Qg d (d + 1)).data.toList = [bt hexCs (d : Int)] ∧ (ByteArray.extract Qg d (d + 1)).size = 1 := by decide +kernel
theorem Zgf {R : Nat} (hR : R < 18446744073709551616) : ∀ (n : Nat) (s : ByteArray), n ≤ 16 → s.size ≤ 100 - n → Qm.l1 ((R : Nat) : Int) s (4 * (n : Int) - 4) = some (s ++ ⟨(digs R n).toArray⟩) := by
 intro n
 induction n with
 | zero =>
  intro s hn hs
  refine Z1 ?_
  simp only [Qm.s1, Z3]
  rw [if_neg (by decide)]
  have e : s ++ (⟨(digs R 0).toArray⟩ : ByteArray) = s := Zep (by rw [Zcz]; simp [digs])
  rw [e]
 | succ n ih =>
  intro s hn hs
  have hsz : ((ByteArray.size Qg : Nat) : Int) = 16 := by decide
  have e0 : (4 * ((n + 1 : Nat) : Int) - 4) = ((4 * n : Nat) : Int) := by omega
  have e1 : Int.tmod (Int.fdiv ((R : Nat) : Int) (2 ^ min (Int.toNat ((4 * n : Nat) : Int)) (IntKind.bits .u64))) 16 = ((R / 16 ^ n % 16 : Nat) : Int) := by
   have e2 : min (Int.toNat ((4 * n : Nat) : Int)) (IntKind.bits .u64) = 4 * n := by
    show min (Int.toNat ((4 * n : Nat) : Int)) 64 = 4 * n
    omega
   have e3 : (2 : Int) ^ (4 * n) = ((16 ^ n : Nat) : Int) := by
    rw [Int.pow_mul]
    norm_cast
   rw [e2, e3, Int.fdiv_eq_ediv_of_nonneg _ (Int.natCast_nonneg _), ← Int.natCast_ediv, Int.tmod_eq_emod_of_nonneg (Int.natCast_nonneg _)]
   exact (Int.natCast_emod _ _).symm
  obtain ⟨h1, h2⟩ := hexR (R / 16 ^ n % 16) (Nat.mod_lt _ (by decide))
  have hd : R / 16 ^ n % 16 < 16 := Nat.mod_lt _ (by decide)
  rw [e0]
  have e4 : ∀ z : Int, ((4 * n : Nat) : Int) - 4 = 4 * (n : Int) - 4 := fun _ => by omega
  refine (Z4 (x' := (s ++ ByteArray.extract Qg (R / 16 ^ n % 16) (R / 16 ^ n % 16 + 1), 4 * (n : Int) - 4)) ?_).trans ((ih _ (by omega) (by rw [ByteArray.size_append, h2]; omega)).trans ?_)
  ·simp only [Qm.s1, Z3, e1, hsz]
   rw [if_pos (by omega), Z0 (by omega)]
   rw [Zho (n := ((R / 16 ^ n % 16 : Nat) : Int) + 1) (by omega) (by omega)]
   rw [Z0 ⟨by omega, by omega, by omega⟩]
   have e5 : (Int.toNat ((R / 16 ^ n % 16 : Nat) : Int)) = R / 16 ^ n % 16 := by omega
   have e6 : (Int.toNat (((R / 16 ^ n % 16 : Nat) : Int) + 1)) = R / 16 ^ n % 16 + 1 := by omega
   rw [e5, e6, h2, Z0 (by omega), Zn (by omega) (by omega), e4 0]
  ·congr 1
   apply Zep
   rw [Zcz, Zcz, Zcz, h1]
   simp [digs, hexD]
def dgB (l : List UInt8) : ByteArray := ⟨(digs (Zgh 14695981039346656037 l).toNat 16).toArray⟩
theorem Zgy {l : List UInt8} (hl : l.length ≤ BIG) : Qj.f l = some (dgB l) := by
 have h := Zbd hl _ 0 14695981039346656037 rfl
 obtain ⟨h1, h2⟩ := hashL_in l 14695981039346656037 (by decide)
 rw [List.drop_zero, show ((0 : Nat) : Int) = 0 from rfl] at h
 obtain ⟨R, hR⟩ := Int.eq_ofNat_of_zero_le h1
 unfold Qj.f
 simp only [h, ob_s]
 rw [Z0 (by decide)]
 have h3 := Ziq (R := R) (by omega) _ 0 rfl (by decide)
 have e1 : ((List.length (List.replicate (Int.toNat (16 : Int)) (0 : UInt8)) : Nat) : Int) = 16 := by decide
 have e2 : List.replicate (Int.toNat (16 : Int)) (0 : UInt8) = List.replicate (16 - 0) 0 ++ digs R 0 := rfl
 have e3 : (R / 16 ^ 0 : Nat) = R := by simp
 rw [e3] at h3
 rw [e1, e2, hR]
 rw [show (0 : Int) = ((0 : Nat) : Int) from rfl, h3, ob_s]
 unfold dgB
 rw [hR]
 rfl
theorem Zbj {l : List UInt8} (hl : l.length ≤ BIG) : Qm.f l = some (dgB l) := by
 have h := Zbd hl _ 0 14695981039346656037 rfl
 obtain ⟨h1, h2⟩ := hashL_in l 14695981039346656037 (by decide)
 rw [List.drop_zero, show ((0 : Nat) : Int) = 0 from rfl] at h
 obtain ⟨R, hR⟩ := Int.eq_ofNat_of_zero_le h1
 unfold Qm.f
 rw [Zeg, h, ob_s, hR]
 have h3 := Zgf (R := R) (by omega) 16 bs_ (by decide) (by decide)
 rw [show (4 * ((16 : Nat) : Int) - 4) = 60 from rfl] at h3
 rw [h3, ob_s]
 unfold dgB
 rw [hR]
 congr 1
end Go.Proofs.YtahlodpolggeiaaGreatDoor
set_option linter.unusedVariables false
set_option linter.unusedSimpArgs false
namespace Go.Proofs.YtahlodpolggeiaaGreatDoor
open Go Go.Lib Go.Proofs.YtahlodpolggeiaaGreatDoor.Eng
abbrev C0 : Cl := (ByteArray.empty, (ByteArray.empty, (ByteArray.empty, (ByteArray.empty, ((0 : Int), (([] : (List ByteArray)), ByteArray.empty))))))
theorem logLoop {l : List Cl} (hl : l.length ≤ 1000) (hs : ∀ c ∈ l, szC c) : ∀ (n k : Nat), l.length - k = n → ∃ r, Qn.l0 l l (l.length : Int) (k : Int) = some r ∧ ((r = .inr () ∧ ∀ j : Nat, ∀ h : j < l.length, k ≤ j → Q9.f l[j] = some 0 ∧ l[j].2.2.2.2.2.2 ≠ bs_ ∧ ∀ h' : 0 < j, (l[j - 1]'(by omega)).2.2.2.2.1 ≤ l[j].2.2.2.2.1) ∨ ∃ f : Int, f ≠ 0 ∧ r = .inl f) := by
 intro n
 induction n with
 | zero =>
  intro k hk
  refine ⟨.inr (), Z1 ?_, .inl ⟨rfl, fun j h1 h2 => by omega⟩⟩
  simp only [Qn.s0, Z3]
  rw [if_neg (by omega)]
 | succ n ih =>
  intro k hk
  have hlt : k < l.length := by omega
  obtain ⟨r, h1, h2⟩ := ih (k + 1) (by omega)
  have e : ((k : Int) + 1) = ((k + 1 : Nat) : Int) := by omega
  obtain ⟨f, hf, hf0⟩ := Zjm (hs _ (List.getElem_mem hlt))
  have step : Qn.s0 l l (l.length : Int) (k : Int) = some (.inr (.inl f)) ∧ f ≠ 0 ∨ Qn.s0 l l (l.length : Int) (k : Int) = some (.inr (.inl 3)) ∨ Qn.s0 l l (l.length : Int) (k : Int) = some (.inr (.inl 8)) ∨ (Qn.s0 l l (l.length : Int) (k : Int) = some (.inl ((k + 1 : Nat) : Int)) ∧ f = 0 ∧ l[k].2.2.2.2.2.2 ≠ bs_ ∧ ∀ h' : 0 < k, (l[k - 1]'(by omega)).2.2.2.2.1 ≤ l[k].2.2.2.2.1) := by
   simp only [Qn.s0, Z3]
   rw [if_pos (by omega), Z0 ⟨by omega, by omega⟩, Z16 hlt, hf, ob_s]
   by_cases h0 : f = 0
   ·rw [decide_eq_true h0]
    simp only [Bool.not_true, cb_f]
    by_cases g : l[k].2.2.2.2.2.2 = bs_
    ·rw [if_pos g]; exact .inr (.inl rfl)
    ·rw [if_neg g]
     by_cases h3 : 0 < k
     ·have e2 : ((k : Int) - 1) = ((k - 1 : Nat) : Int) := by omega
      rw [if_pos (by omega), Zn (by omega) (by omega), Z0 ⟨by omega, by omega⟩, e2, Z16 (show k - 1 < l.length by omega)]
      by_cases h4 : l[k].2.2.2.2.1 < (l[k - 1]'(by omega)).2.2.2.2.1
      ·rw [if_pos h4]; exact .inr (.inr (.inl rfl))
      ·rw [if_neg h4, Zn (by omega) (by omega), e]
       exact .inr (.inr (.inr ⟨rfl, h0, g, fun _ => by omega⟩))
     ·rw [if_neg (by omega), Zn (by omega) (by omega), e]
      exact .inr (.inr (.inr ⟨rfl, h0, g, fun h => absurd h h3⟩))
   ·rw [decide_eq_false h0]
    exact .inl ⟨rfl, h0⟩
  rcases step with ⟨hx, h0⟩ | hx | hx | ⟨hx, h0, hg, h4⟩
  ·exact ⟨.inl f, Z1 hx, .inr ⟨f, h0, rfl⟩⟩
  ·exact ⟨.inl 3, Z1 hx, .inr ⟨3, by decide, rfl⟩⟩
  ·exact ⟨.inl 8, Z1 hx, .inr ⟨8, by decide, rfl⟩⟩
  ·refine ⟨r, (Z4 hx).trans h1, ?_⟩
   rcases h2 with ⟨h2, h5⟩ | h2
   ·refine .inl ⟨h2, fun j hj hkj => ?_⟩
    rcases Nat.eq_or_lt_of_le hkj with rfl | h6
    ·exact ⟨by rw [hf, h0], hg, h4⟩
    ·exact h5 j hj h6
   ·exact .inr h2
structure OkL (l : List Cl) : Prop where
 len : l.length ≤ 1000
 ok : ∀ c ∈ l, Q9.f c = some 0 ∧ OkC c
 sign : ∀ c ∈ l, c.2.2.2.2.2.2 ≠ bs_
 rise : ∀ j : Nat, ∀ h : j < l.length, ∀ h' : 0 < j, (l[j - 1]'(by omega)).2.2.2.2.1 ≤ l[j].2.2.2.2.1
theorem Zdf {l : List Cl} (hs : ∀ c ∈ l, szC c) : ∃ f : Int, Qn.f l = some f ∧ (f = 0 → OkL l) := by
 unfold Qn.f
 simp only [Z3]
 by_cases h : 1000 < l.length
 ·rw [if_pos (by omega)]; exact ⟨2, rfl, fun h => by cases h⟩
 ·rw [if_neg (by omega)]
  obtain ⟨r, h1, h2⟩ := logLoop (l := l) (by omega) hs _ 0 rfl
  rw [show ((0 : Nat) : Int) = 0 from rfl] at h1
  rw [h1, ob_s]
  rcases h2 with ⟨rfl, h3⟩ | ⟨f, hf, rfl⟩
  ·refine ⟨0, rfl, fun _ => ⟨by omega, fun c hc => ?_, fun c hc => ?_, fun j hj hj0 => (h3 j hj (Nat.zero_le _)).2.2 hj0⟩⟩
   ·obtain ⟨j, hj, rfl⟩ := List.getElem_of_mem hc
    have h4 := (h3 j hj (Nat.zero_le _)).1
    obtain ⟨f, hf, hf0⟩ := Zjm (hs _ hc)
    rw [h4] at hf
    exact ⟨h4, hf0 (Option.some.inj hf).symm⟩
   ·obtain ⟨j, hj, rfl⟩ := List.getElem_of_mem hc
    exact (h3 j hj (Nat.zero_le _)).2.1
  ·exact ⟨f, rfl, fun h => absurd h hf⟩
end Go.Proofs.YtahlodpolggeiaaGreatDoor
set_option linter.unusedVariables false
set_option linter.unusedSimpArgs false
namespace Go.Proofs.YtahlodpolggeiaaGreatDoor
open Go Go.Lib Go.Proofs.YtahlodpolggeiaaGreatDoor.Eng
noncomputable def sigB (s : ByteArray) (c : Cl) : ByteArray := dgB ((((s ++ Q2c) ++ Z4k c) ++ Q2c) ++ s).data.toList
theorem sig_eq {s : ByteArray} (hs : s.size ≤ 1000000000000) {c : Cl} (hk : OkC c) : Q1i.f s c = some (sigB s c) ∧ Q1s.f s c = some (sigB s c) := by
 have hB : BIG = 140737488355328 := rfl
 obtain ⟨h1, h2⟩ := Zj2 hk
 have e : Q2c.size = 1 := rfl
 have s1 : (s ++ Q2c).size = s.size + 1 := by rw [ByteArray.size_append, e]
 have s2 : ((s ++ Q2c) ++ Z4k c).size = s.size + 1 + (Z4k c).size := by rw [ByteArray.size_append, s1]
 have s3 : (((s ++ Q2c) ++ Z4k c) ++ Q2c).size = s.size + 2 + (Z4k c).size := by rw [ByteArray.size_append, s2, e]; omega
 have s4 : ((((s ++ Q2c) ++ Z4k c) ++ Q2c) ++ s).data.toList.length ≤ BIG := by rw [← Zb, ByteArray.size_append, s3]; omega
 constructor
 ·unfold Q1i.f
  rw [Z0 (by omega), h1, ob_s, Z0 (by omega), Z0 (by omega)]
  simp only [Zgy s4, ob_s]
  rw [Z0 (by omega)]
  rfl
 ·unfold Q1s.f Q1z.f
  rw [Z0 (by omega), Zh6, h1, ob_s, Z0 (by omega), Z0 (by omega)]
  simp only [Zbj s4, ob_s]
  rw [Z0 (by omega)]
  rfl
inductive Both (l : List Wr) (c : Cl) : Prop
 | no (f : Int) (hf : f ≠ 0) (h : Q1c.f l c = some f)
 | none (h : Q1c.f l c = some 0) (hc : Q9.f c = some 0) (hk : OkC c) (hl : l.length ≤ 50) (hr : Rising (labs l)) (hn : ∀ k : Nat, ∀ h : k < l.length, l[k].1 ≠ c.2.2.2.1)
 | one (k : Nat) (hkl : k < l.length) (h : Q1c.f l c = some 0) (hc : Q9.f c = some 0) (hk : OkC c) (hl : l.length ≤ 50) (hr : Rising (labs l)) (he : l[k].1 = c.2.2.2.1)
theorem Zgk {l : List Wr} (hl : l.length ≤ 50) (hr : Rising (labs l)) {s : ByteArray} (hn : ∀ k : Nat, ∀ h : k < l.length, l[k].1 ≠ s) : ∃ r, Q1q.f l s = some r ∧ r.2 = false := by
 obtain ⟨r, h1, h2⟩ := Zco (by omega) hr s
 rcases h2 with ⟨h2, _⟩ | ⟨k, hk, _, h3⟩
 ·exact ⟨r, h1, h2⟩
 ·exact absurd h3 (hn k hk)
theorem Zit {l : List Wr} (hl : l.length ≤ 50) (hr : Rising (labs l)) {s : ByteArray} {k : Nat} (hk : k < l.length) (he : l[k].1 = s) : Q1q.f l s = some (l[k], true) := by
 obtain ⟨r, h1, h2⟩ := Zco (by omega) hr s
 rcases h2 with ⟨_, h2⟩ | ⟨k', hk', h2, h3⟩
 ·exact absurd he (h2 k hk)
 ·have hkk : k = k' := hr.inj (by unfold labs; simpa using hk) (by unfold labs; simpa using hk') (by rw [Z2g hk, Z2g hk', he, h3])
  subst hkk
  rw [h1, h2]
section
variable {l : List Wr} {c : Cl} (hs : ∀ w ∈ l, szW w) (hn : ∀ w ∈ l, w.2.2.1.length ≤ 100000000000)
end
end Go.Proofs.YtahlodpolggeiaaGreatDoor
set_option linter.unusedVariables false
set_option linter.unusedSimpArgs false
namespace Go.Proofs.YtahlodpolggeiaaGreatDoor
open Go Go.Proofs.YtahlodpolggeiaaGreatDoor.Eng
end Go.Proofs.YtahlodpolggeiaaGreatDoor
set_option linter.unusedVariables false
set_option linter.unusedSimpArgs false
namespace Go.Proofs.YtahlodpolggeiaaGreatDoor
open Go Go.Lib Go.Proofs.YtahlodpolggeiaaGreatDoor.Eng
abbrev Au : Type := Int × (ByteArray × Int)
def hx (d : Nat) : UInt8 := bt hexCs (d : Int)
theorem b16 : ((UInt8.toNat (UInt8.ofInt (IntKind.u8.wrap (16 : Int))) : Nat) : Int) = 16 := by decide
end Go.Proofs.YtahlodpolggeiaaGreatDoor
set_option linter.unusedVariables false
set_option linter.unusedSimpArgs false
namespace Go.Proofs.YtahlodpolggeiaaGreatDoor
open Go Go.Lib Go.Proofs.YtahlodpolggeiaaGreatDoor.Eng
structure OkA (l : List Cl) (m : List Au) : Prop where
 log : OkL l
 len : m.length ≤ 1000
 num : ∀ a ∈ m, 0 ≤ a.1 ∧ a.1 < (l.length : Int)
theorem Zhi {l : List Cl} (hl : l.length ≤ 1000) {m : List Au} (hm : m.length ≤ 1000) : ∀ (n k : Nat), m.length - k = n → ∃ r, Q5.l0 l m m (m.length : Int) (k : Int) = some r ∧ ((r = .inr () ∧ ∀ j : Nat, ∀ h : j < m.length, k ≤ j → 0 ≤ m[j].1 ∧ m[j].1 < (l.length : Int)) ∨ ∃ f : Int, f ≠ 0 ∧ r = .inl f) := by
 intro n
 induction n with
 | zero =>
  intro k hk
  refine ⟨.inr (), Z1 ?_, .inl ⟨rfl, fun j hj h => by omega⟩⟩
  simp only [Q5.s0, Z3]
  rw [if_neg (by omega)]
 | succ n ih =>
  intro k hk
  have hlt : k < m.length := by omega
  have e : ((k : Int) + 1) = ((k + 1 : Nat) : Int) := by omega
  obtain ⟨r, h1, h2⟩ := ih (k + 1) (by omega)
  have key : ∀ res, Q5.s0 l m m (m.length : Int) (k : Int) = some res → (∃ f : Int, f ≠ 0 ∧ res = .inr (.inl f)) ∨ (res = .inl ((k + 1 : Nat) : Int) ∧ 0 ≤ m[k].1 ∧ m[k].1 < (l.length : Int)) → ∃ r, Q5.l0 l m m (m.length : Int) (k : Int) = some r ∧ ((r = .inr () ∧ ∀ j : Nat, ∀ h : j < m.length, k ≤ j → 0 ≤ m[j].1 ∧ m[j].1 < (l.length : Int)) ∨ ∃ f : Int, f ≠ 0 ∧ r = .inl f) := by
   intro res hs hr
   rcases hr with ⟨f, h0, rfl⟩ | ⟨rfl, h3, h4⟩
   ·exact ⟨.inl f, Z1 hs, .inr ⟨f, h0, rfl⟩⟩
   ·refine ⟨r, (Z4 hs).trans h1, ?_⟩
    rcases h2 with ⟨h2, h5⟩ | h2
    ·refine .inl ⟨h2, fun j hj hkj => ?_⟩
     rcases Nat.eq_or_lt_of_le hkj with rfl | h6
     ·exact ⟨h3, h4⟩
     ·exact h5 j hj h6
    ·exact .inr h2
  have hs : ∃ res, Q5.s0 l m m (m.length : Int) (k : Int) = some res ∧ ((∃ f : Int, f ≠ 0 ∧ res = .inr (.inl f)) ∨ (res = .inl ((k + 1 : Nat) : Int) ∧ 0 ≤ m[k].1 ∧ m[k].1 < (l.length : Int))) := by
   unfold Q5.s0
   rw [decide_eq_true (by omega), cb_t, Z0 ⟨by omega, by omega⟩, Z16 hlt]
   simp only [Z1t, Z1q, ob_s]
   rw [Zn (by omega) (by omega)]
   by_cases hn : 0 ≤ m[k].1 ∧ m[k].1 ≤ (l.length : Int) - 1
   ·rw [decide_eq_true hn]
    simp only [Bool.not_true, cb_f]
    cases hd : digB m[k].2.1 with
    | false => exact ⟨_, rfl, .inl ⟨3, by decide, rfl⟩⟩
    | true =>
     simp only [Bool.not_true, cb_f]
     rw [Z0 ⟨hn.1, by omega⟩]
     by_cases ha : (rd C0 l m[k].1).2.2.2.2.1 ≤ m[k].2.2 ∧ m[k].2.2 ≤ 1000000000
     ·rw [decide_eq_true ha]
      simp only [Bool.not_true, cb_f, Z3]
      by_cases h0 : 0 < k
      ·have e1 : (k : Int) - 1 = ((k - 1 : Nat) : Int) := by omega
       rw [if_pos (by omega), Zn (by omega) (by omega), e1, Z0 ⟨by omega, by omega⟩, Zn (by omega) (by omega), e]
       split
       ·exact ⟨_, rfl, .inl ⟨8, by decide, rfl⟩⟩
       ·exact ⟨_, rfl, .inr ⟨rfl, hn.1, by omega⟩⟩
      ·rw [if_neg (by omega), Zn (by omega) (by omega), e]
       exact ⟨_, rfl, .inr ⟨rfl, hn.1, by omega⟩⟩
     ·rw [decide_eq_false ha]
      exact ⟨_, rfl, .inl ⟨1, by decide, rfl⟩⟩
   ·rw [decide_eq_false hn]
    exact ⟨_, rfl, .inl ⟨9, by decide, rfl⟩⟩
  obtain ⟨res, hs, hr⟩ := hs
  exact key res hs hr
theorem Zj3 {l : List Cl} (hs : ∀ c ∈ l, szC c) (m : List Au) : ∃ f : Int, Q5.f l m = some f ∧ (f = 0 → OkA l m) := by
 obtain ⟨f, h1, h2⟩ := Zdf hs
 unfold Q5.f
 rw [h1, ob_s]
 by_cases hf : f = 0
 ·rw [decide_eq_true hf]
  simp only [Bool.not_true, cb_f, Z3]
  have hk := h2 hf
  by_cases h : 1000 < m.length
  ·rw [if_pos (by omega)]; exact ⟨2, rfl, fun h => by cases h⟩
  ·rw [if_neg (by omega)]
   obtain ⟨r, h3, h4⟩ := Zhi hk.len (m := m) (by omega) _ 0 rfl
   rw [show ((0 : Nat) : Int) = 0 from rfl] at h3
   rw [h3, ob_s]
   rcases h4 with ⟨rfl, h5⟩ | ⟨f', hf', rfl⟩
   ·refine ⟨0, rfl, fun _ => ⟨hk, by omega, fun a ha => ?_⟩⟩
    obtain ⟨j, hj, rfl⟩ := List.getElem_of_mem ha
    exact h5 j hj (Nat.zero_le _)
   ·exact ⟨f', rfl, fun h => absurd h hf'⟩
 ·rw [decide_eq_false hf]
  exact ⟨f, rfl, fun h => absurd h hf⟩
noncomputable def same (l : List Cl) (x : Au) : Bool := decide (x.2.1 = (rd C0 l x.1).2.2.1)
abbrev Fc : Type := List Bool × (List Bool × List (ByteArray × Bool))
noncomputable def fcs (l : List Cl) : List Au → Fc → Fc
 | [], t => t
 | x :: r, t => fcs l r (t.1.set x.1.toNat true, (match same l x with | true => t.2.1 | false => t.2.1.set x.1.toNat true), (match same l x with | true => t.2.2 | false => mset (rd C0 l x.1).2.2.2.1 true t.2.2))
theorem fcLoop {l : List Cl} {m : List Au} (hm : m.length ≤ 1000) (hn : ∀ a ∈ m, 0 ≤ a.1 ∧ a.1 < (l.length : Int)) : ∀ (n k : Nat) (a w : List Bool) (s : List (ByteArray × Bool)), m.length - k = n → a.length = l.length → w.length = l.length → Ql.l0 l m (m.length : Int) (k : Int) [] [] [] a w s = some ([], [], [], fcs l (m.drop k) (a, w, s)) := by
 intro n
 induction n with
 | zero =>
  intro k a w s hk ha hw
  refine Z1 ?_
  simp only [Ql.s0, Z3]
  rw [if_neg (by omega), List.drop_eq_nil_of_le (by omega)]
  rfl
 | succ n ih =>
  intro k a w s hk ha hw
  have hlt : k < m.length := by omega
  obtain ⟨h1, h2⟩ := hn _ (List.getElem_mem hlt)
  have e : ((k : Int) + 1) = ((k + 1 : Nat) : Int) := by omega
  rw [List.drop_eq_getElem_cons hlt]
  unfold fcs
  cases hq : same l m[k] with
  | true =>
   have hq' : m[k].2.1 = (rd C0 l m[k].1).2.2.1 := of_decide_eq_true hq
   refine (Z4 (x' := (((k + 1 : Nat) : Int), [], [], [], a.set m[k].1.toNat true, w, s)) ?_).trans (ih (k + 1) _ _ _ (by omega) (by simp [ha]) hw)
   simp only [Ql.s0]
   rw [decide_eq_true (by omega), cb_t, Z0 ⟨by omega, by omega⟩, Z16 hlt]
   rw [Z0 ⟨h1, by omega⟩, Z0 (by omega), Z0 ⟨h1, h2⟩, decide_eq_true hq']
   simp only [Bool.not_true, cb_f]
   rw [Zn (by omega) (by omega), e]
  | false =>
   have hq' : ¬ m[k].2.1 = (rd C0 l m[k].1).2.2.1 := of_decide_eq_false hq
   refine (Z4 (x' := (((k + 1 : Nat) : Int), [], [], [], a.set m[k].1.toNat true, w.set m[k].1.toNat true, mset (rd C0 l m[k].1).2.2.2.1 true s)) ?_).trans (ih (k + 1) _ _ _ (by omega) (by simp [ha]) (by simp [hw]))
   simp only [Ql.s0]
   rw [decide_eq_true (by omega), cb_t, Z0 ⟨by omega, by omega⟩, Z16 hlt]
   rw [Z0 ⟨h1, by omega⟩, Z0 (by omega), Z0 ⟨h1, h2⟩, decide_eq_false hq']
   simp only [Bool.not_false, cb_t]
   rw [Z0 ⟨h1, by omega⟩, Z0 (by omega), Z0 ⟨h1, h2⟩, Zn (by omega) (by omega), e]
theorem Ziu {l : List Cl} {m : List Au} (hA : OkA l m) : Ql.f l m = some (fcs l m (List.replicate l.length false, List.replicate l.length false, [])) := by
 have hl := hA.log.len
 have hck : ∀ a : Option Fc, ck (0 ≤ ((List.length l : Nat) : Int) ∧ ((List.length l : Nat) : Int) * (1 : Int) ≤ 140737488355328) a = a := fun a => Z0 ⟨by omega, by omega⟩
 have h := fcLoop (l := l) hA.len hA.num _ 0 (List.replicate l.length false) (List.replicate l.length false) [] rfl (by simp) (by simp)
 rw [show ((0 : Nat) : Int) = 0 from rfl, List.drop_zero] at h
 unfold Ql.f
 simp only [mix_eq, hck, Int.toNat_natCast, h, ob_s, Zbt]
theorem Zgn (l : List Cl) : ∀ (m : List Au) (t : Fc), (fcs l m t).1.length = t.1.length ∧ (fcs l m t).2.1.length = t.2.1.length
 | [], t => ⟨rfl, rfl⟩
 | x :: r, t => by
  unfold fcs
  have h := Zgn l r (t.1.set x.1.toNat true, (match same l x with | true => t.2.1 | false => t.2.1.set x.1.toNat true), (match same l x with | true => t.2.2 | false => mset (rd C0 l x.1).2.2.2.1 true t.2.2))
  refine ⟨h.1.trans (by simp), h.2.trans ?_⟩
  cases same l x <;> simp
def nums (k : Nat) : List Bool → List Int
 | [] => []
 | b :: r => match b with | true => (k : Int) :: nums (k + 1) r | false => nums (k + 1) r
theorem nums_len : ∀ (l : List Bool) (k : Nat), (nums k l).length ≤ l.length
 | [], _ => Nat.le_refl _
 | b :: r, k => by
  have := nums_len r (k + 1)
  cases b <;> simp [nums] <;> omega
theorem numLoop {l : List Bool} (hl : l.length ≤ 1000) : ∀ (n k : Nat) (out : List Int), l.length - k = n → out.length ≤ k → Qt.l0 l (l.length : Int) (k : Int) out = some (out ++ nums k (l.drop k)) := by
 intro n
 induction n with
 | zero =>
  intro k out hk ho
  refine Z1 ?_
  simp only [Qt.s0, Z3]
  rw [if_neg (by omega), List.drop_eq_nil_of_le (by omega)]
  simp [nums]
 | succ n ih =>
  intro k out hk ho
  have hlt : k < l.length := by omega
  have e : ((k : Int) + 1) = ((k + 1 : Nat) : Int) := by omega
  rw [List.drop_eq_getElem_cons hlt]
  cases hb : l[k] with
  | true =>
   have h1 := ih (k + 1) (out ++ [(k : Int)]) (by omega) (by simp; omega)
   refine (Z4 (x' := (((k + 1 : Nat) : Int), out ++ [(k : Int)])) ?_).trans (h1.trans (by simp [nums]))
   simp only [Qt.s0]
   rw [decide_eq_true (by omega), cb_t, Z0 ⟨by omega, by omega⟩, Z16 hlt, hb, cb_t, Z0 (by simp; omega), Zn (by omega) (by omega), e]
  | false =>
   have h1 := ih (k + 1) out (by omega) (by omega)
   refine (Z4 (x' := (((k + 1 : Nat) : Int), out)) ?_).trans (h1.trans (by simp [nums]))
   simp only [Qt.s0]
   rw [decide_eq_true (by omega), cb_t, Z0 ⟨by omega, by omega⟩, Z16 hlt, hb, cb_f, Zn (by omega) (by omega), e]
theorem Ze6 {l : List Bool} (hl : l.length ≤ 1000) : Qt.f l = some (nums 0 l) := by
 have h := numLoop hl _ 0 [] rfl (by simp)
 rw [show ((0 : Nat) : Int) = 0 from rfl] at h
 unfold Qt.f
 simp only [h, ob_s, List.drop_zero, List.nil_append]
end Go.Proofs.YtahlodpolggeiaaGreatDoor
set_option linter.unusedVariables false
set_option linter.unusedSimpArgs false
namespace Go.Proofs.YtahlodpolggeiaaGreatDoor
open Go Go.Lib Go.Proofs.YtahlodpolggeiaaGreatDoor.Eng
end Go.Proofs.YtahlodpolggeiaaGreatDoor
set_option linter.unusedVariables false
namespace Go.Proofs.YtahlodpolggeiaaGreatDoor
open Go Go.Lib Go.Proofs.YtahlodpolggeiaaGreatDoor.Eng
theorem Zb1 {α : Type} (x y : ByteArray) (v : α) : ∀ es : List (ByteArray × α), Z10 x (Z1w y v es) = if x = y then some v else Z10 x es
 | [] => by
  unfold Z1w Z10
  by_cases h : x = y
  ·rw [if_pos h, decide_eq_true h]
  ·rw [if_neg h, decide_eq_false h]; rfl
 | p :: r => by
  have ih := Zb1 x y v r
  unfold Z1w
  by_cases hp : y = p.1
  ·rw [decide_eq_true hp]
   show Z10 x ((y, v) :: r) = _
   by_cases h : x = y
   ·rw [if_pos h]; unfold Z10; rw [decide_eq_true h]
   ·rw [if_neg h]
    have h2 : ¬ x = p.1 := fun e => h (e.trans hp.symm)
    unfold Z10
    rw [decide_eq_false h, decide_eq_false h2]
  ·rw [decide_eq_false hp]
   cases klt y p.1 with
   | true =>
    show Z10 x ((y, v) :: p :: r) = _
    by_cases h : x = y
    ·rw [if_pos h]; unfold Z10; rw [decide_eq_true h]
    ·rw [if_neg h]
     show Z10 x ((y, v) :: p :: r) = Z10 x (p :: r)
     conv => lhs; unfold Z10
     rw [decide_eq_false h]
   | false =>
    show Z10 x (p :: Z1w y v r) = _
    by_cases h2 : x = p.1
    ·have h : ¬ x = y := fun e => hp (e.symm.trans h2)
     rw [if_neg h]
     unfold Z10
     rw [decide_eq_true h2]
    ·have e1 : Z10 x (p :: Z1w y v r) = Z10 x (Z1w y v r) := by
      conv => lhs; unfold Z10
      rw [decide_eq_false h2]
     have e2 : Z10 x (p :: r) = Z10 x r := by
      conv => lhs; unfold Z10
      rw [decide_eq_false h2]
     rw [e1, e2, ih]
end Go.Proofs.YtahlodpolggeiaaGreatDoor
set_option linter.unusedVariables false
set_option linter.unusedSimpArgs false
namespace Go.Proofs.YtahlodpolggeiaaGreatDoor
open Go Go.Lib Go.Proofs.YtahlodpolggeiaaGreatDoor.Eng
end Go.Proofs.YtahlodpolggeiaaGreatDoor
set_option linter.unusedVariables false
set_option linter.unusedSimpArgs false
namespace Go.Proofs.YtahlodpolggeiaaGreatDoor
open Go Go.Lib Go.Proofs.YtahlodpolggeiaaGreatDoor.Eng
end Go.Proofs.YtahlodpolggeiaaGreatDoor
set_option linter.unusedVariables false
set_option linter.unusedSimpArgs false
namespace Go.Proofs.YtahlodpolggeiaaGreatDoor
open Go Go.Lib Go.Proofs.YtahlodpolggeiaaGreatDoor.Eng
theorem mup_ext {α : Type} {a b : List (ByteArray × α)} (ha : MUp a) (hb : MUp b) (h : ∀ k, Z10 k a = Z10 k b) : a = b := by
 have na : a.Nodup := List.Pairwise.imp (fun {p q} hpq e => by subst e; rw [Z9h] at hpq; cases hpq) ha
 have nb : b.Nodup := List.Pairwise.imp (fun {p q} hpq e => by subst e; rw [Z9h] at hpq; cases hpq) hb
 have hp : List.Perm a b := (List.perm_ext_iff_of_nodup na nb).2 fun p => by
  have h1 := mgetA_mem (k := p.1) ha.nodup p.2
  have h2 := mgetA_mem (k := p.1) hb.nodup p.2
  rw [h p.1] at h1
  exact (h1.symm.trans h2)
 exact List.Perm.eq_of_pairwise (fun p q _ _ h1 h2 => by
  have := Z7q h1 h2
  rw [Z9h] at this; cases this) ha hb hp
theorem mset_up {α : Type} {k : ByteArray} {v : α} {es : List (ByteArray × α)} (h : MUp es) : MUp (mset k v es) := msetA_up h
theorem Z41 {α : Type} (x y : ByteArray) (v : α) (es : List (ByteArray × α)) : mget x (mset y v es) = if x = y then some v else mget x es := Zb1 x y v es
def Z8h {α β : Type} (v : β) (l : List (ByteArray × α)) (acc : List (ByteArray × β)) : List (ByteArray × β) := l.foldl (fun a p => mset p.1 v a) acc
theorem Za1 {α β : Type} {v : β} : ∀ (l : List (ByteArray × α)) {acc : List (ByteArray × β)}, MUp acc → MUp (Z8h v l acc)
 | [], _, h => h
 | p :: r, _, h => Za1 r (mset_up h)
open Classical in
theorem Z87 {α β : Type} {v : β} (x : ByteArray) : ∀ (l : List (ByteArray × α)) (acc : List (ByteArray × β)), mget x (Z8h v l acc) = if (x ∈ l.map fun p => p.1) then some v else mget x acc
 | [], acc => by rw [if_neg (by simp)]; rfl
 | p :: r, acc => by
  show mget x (Z8h v r (mset p.1 v acc)) = _
  rw [Z87 x r, Z41]
  by_cases h1 : x ∈ r.map (·.1)
  ·rw [if_pos h1, if_pos (by simp only [List.map_cons, List.mem_cons]; exact .inr h1)]
  ·rw [if_neg h1]
   by_cases h2 : x = p.1
   ·rw [if_pos h2, if_pos (by simp only [List.map_cons, List.mem_cons]; exact .inl h2)]
   ·rw [if_neg h2, if_neg (by simp only [List.map_cons, List.mem_cons, not_or]; exact ⟨h2, h1⟩)]
open Classical in
theorem Zen {α β : Type} {v : β} {l l' : List (ByteArray × α)} (hp : List.Perm l l') : Z8h v l [] = Z8h v l' [] := by
 refine mup_ext (Za1 l List.Pairwise.nil) (Za1 l' List.Pairwise.nil) fun k => ?_
 show mget k _ = mget k _
 rw [Z87, Z87]
 have : k ∈ l.map (·.1) ↔ k ∈ l'.map (·.1) := (hp.map _).mem_iff
 by_cases h : k ∈ l'.map (·.1)
 ·rw [if_pos (this.2 h), if_pos h]
 ·rw [if_neg (fun h2 => h (this.1 h2)), if_neg h]
abbrev MB : Type := List (ByteArray × Bool)
abbrev MI : Type := List (ByteArray × Int)
theorem Zfd (S : MB) : Q7.l0 S [] [] = some (Z8h (-1 : Int) S [], []) := by
 have go : ∀ (l : MB) (acc : MI) (e : MB), Z3e (fun (x : MI × MB) e => Q7.s0 x.1 x.2 e) l (acc, e) = some (Z8h (-1 : Int) l acc, e) := by
  intro l
  induction l with
  | nil => intro acc e; rfl
  | cons p r ih =>
   intro acc e
   rw [Z4o]
   exact ih (mset p.1 (-1) acc) e
 refine Zih fun l hp => ?_
 rw [go l [] [], Zen hp]
def Z7g (S : MB) : Nat → List Cl → List Bool → List Bool → MI → MB → MI
 | k, c :: r, a :: A, w :: W, R, E => match w with
  | true => Z7g S (k + 1) r A W R (mset c.2.2.2.1 true E)
  | false => (match a && (Option.getD (mget c.2.2.2.1 S) false && !Option.getD (mget c.2.2.2.1 E) false) with
   | true => Z7g S (k + 1) r A W (mset c.2.2.2.1 (k : Int) R) E
   | false => Z7g S (k + 1) r A W R E)
 | _, _, _, _, R, _ => R
theorem Zfc {l : List Cl} (hl : l.length ≤ 1000) {A W : List Bool} (hA : A.length = l.length) (hW : W.length = l.length) (S : MB) : ∀ (n k : Nat) (R : MI) (E : MB), l.length - k = n →
  ∃ E', Q7.l1 (A, (W, S)) l (l.length : Int) (k : Int) R E = some (Z7g S k (l.drop k) (A.drop k) (W.drop k) R E, E') := by
 intro n
 induction n with
 | zero =>
  intro k R E hk
  refine ⟨E, Z1 ?_⟩
  simp only [Q7.s1, Z3]
  rw [if_neg (by omega), List.drop_eq_nil_of_le (by omega)]
  rfl
 | succ n ih =>
  intro k R E hk
  have hlt : k < l.length := by omega
  have hltA : k < A.length := by omega
  have hltW : k < W.length := by omega
  have e : ((k : Int) + 1) = ((k + 1 : Nat) : Int) := by omega
  have gA : rd false A (k : Int) = A[k] := by simp [rd, List.getD, List.getElem?_eq_getElem hltA]
  have gW : rd false W (k : Int) = W[k] := by simp [rd, List.getD, List.getElem?_eq_getElem hltW]
  have c1 : ∀ {β : Type} (x : Option β), ck (0 ≤ (k : Int) ∧ (k : Int) < ((List.length W : Nat) : Int)) x = x := fun x => Z0 ⟨by omega, by omega⟩
  have c2 : ∀ {β : Type} (x : Option β), ck (0 ≤ (k : Int) ∧ (k : Int) < ((List.length A : Nat) : Int)) x = x := fun x => Z0 ⟨by omega, by omega⟩
  have c3 : ∀ {β : Type} (x : Option β), ck (InR (((k + 1 : Nat) : Int))) x = x := fun x => Zn (by omega) (by omega)
  rw [List.drop_eq_getElem_cons hlt, List.drop_eq_getElem_cons hltA, List.drop_eq_getElem_cons hltW]
  have step : Q7.s1 (A, (W, S)) l (l.length : Int) (k : Int) R E = some (.inl (((k + 1 : Nat) : Int), (match W[k] with
    | true => (R, mset l[k].2.2.2.1 true E)
    | false => (match A[k] && (Option.getD (mget l[k].2.2.2.1 S) false && !Option.getD (mget l[k].2.2.2.1 E) false) with
     | true => (mset l[k].2.2.2.1 (k : Int) R, E)
     | false => (R, E))))) := by
   simp only [Q7.s1]
   rw [decide_eq_true (by omega), cb_t, Z0 ⟨by omega, by omega⟩]
   simp only [Z16 hlt, c1, gW, c2, gA, e, c3]
   cases W[k] with
   | true => rfl
   | false =>
    cases A[k] with
    | false => rfl
    | true =>
     cases Option.getD (mget l[k].2.2.2.1 S) false with
     | false => rfl
     | true =>
      cases Option.getD (mget l[k].2.2.2.1 E) false <;> rfl
  unfold Z7g
  cases hw : W[k] with
  | true =>
   rw [hw] at step
   obtain ⟨E', h⟩ := ih (k + 1) R (mset l[k].2.2.2.1 true E) (by omega)
   exact ⟨E', (Z4 step).trans h⟩
  | false =>
   rw [hw] at step
   cases hb : (A[k] && (Option.getD (mget l[k].2.2.2.1 S) false && !Option.getD (mget l[k].2.2.2.1 E) false)) with
   | true =>
    rw [hb] at step
    obtain ⟨E', h⟩ := ih (k + 1) (mset l[k].2.2.2.1 (k : Int) R) E (by omega)
    exact ⟨E', (Z4 step).trans h⟩
   | false =>
    rw [hb] at step
    obtain ⟨E', h⟩ := ih (k + 1) R E (by omega)
    exact ⟨E', (Z4 step).trans h⟩
theorem Zi1 {l : List Cl} (hl : l.length ≤ 1000) {A W : List Bool} (hA : A.length = l.length) (hW : W.length = l.length) (S : MB) : Q7.f (A, (W, S)) l = some (Z7g S 0 l A W (Z8h (-1 : Int) S []) []) := by
 obtain ⟨E', h⟩ := Zfc hl hA hW S _ 0 (Z8h (-1 : Int) S []) [] rfl
 rw [show ((0 : Nat) : Int) = 0 from rfl, List.drop_zero, List.drop_zero, List.drop_zero] at h
 unfold Q7.f
 simp only [Zfd, ob_s, h]
def Z95 (us : List ByteArray) (bad good : MB) : Bool := us.any fun u => Option.getD (mget u bad) false && !Option.getD (mget u good) false
theorem usLoopB {us : List ByteArray} (hu : us.length ≤ 1000) (bad good : MB) : ∀ (n k : Nat), us.length - k = n →
  ∃ r, Q3.l0 us (bad, good) (us.length : Int) (k : Int) = some r ∧ ((r = .inr () ∧ Z95 (us.drop k) bad good = false) ∨ ∃ j : Nat, r = .inl (j : Int) ∧ Z95 (us.drop k) bad good = true) := by
 intro n
 induction n with
 | zero =>
  intro k hk
  refine ⟨.inr (), Z1 ?_, .inl ⟨rfl, ?_⟩⟩
  ·simp only [Q3.s0, Z3]
   rw [if_neg (by omega)]
  ·rw [List.drop_eq_nil_of_le (by omega)]; rfl
 | succ n ih =>
  intro k hk
  have hlt : k < us.length := by omega
  have e : ((k : Int) + 1) = ((k + 1 : Nat) : Int) := by omega
  obtain ⟨r, h1, h2⟩ := ih (k + 1) (by omega)
  rw [List.drop_eq_getElem_cons hlt]
  have e1 : Q1j.f us[k] bad good = some (Option.getD (mget us[k] bad) false && !Option.getD (mget us[k] good) false) := by
   unfold Q1j.f
   cases Option.getD (mget us[k] bad) false <;> rfl
  have e2 : Z95 (us[k] :: us.drop (k + 1)) bad good = ((Option.getD (mget us[k] bad) false && !Option.getD (mget us[k] good) false) || Z95 (us.drop (k + 1)) bad good) := rfl
  rw [e2]
  cases hb : (Option.getD (mget us[k] bad) false && !Option.getD (mget us[k] good) false) with
  | true =>
   refine ⟨.inl (k : Int), Z1 ?_, .inr ⟨k, rfl, rfl⟩⟩
   simp only [Q3.s0]
   rw [decide_eq_true (by omega), cb_t, Z0 ⟨by omega, by omega⟩, Z16 hlt]
   simp only [e1, hb, ob_s, cb_t]
  | false =>
   refine ⟨r, (Z4 ?_).trans h1, ?_⟩
   ·simp only [Q3.s0]
    rw [decide_eq_true (by omega), cb_t, Z0 ⟨by omega, by omega⟩, Z16 hlt]
    simp only [e1, hb, ob_s, cb_f]
    rw [Zn (by omega) (by omega), e]
   ·simpa using h2
theorem uses_eq {us : List ByteArray} (hu : us.length ≤ 1000) (bad good : MB) : Qd.f us (bad, good) = some (Z95 us bad good) := by
 obtain ⟨r, h1, h2⟩ := usLoopB hu bad good _ 0 rfl
 rw [show ((0 : Nat) : Int) = 0 from rfl] at h1
 rw [List.drop_zero] at h2
 unfold Qd.f Q3.f
 simp only [h1, ob_s]
 rcases h2 with ⟨rfl, h3⟩ | ⟨j, rfl, h3⟩
 ·rw [h3]; rfl
 ·rw [h3]
  show some (decide ((0 : Int) ≤ (j : Int))) = _
  rw [decide_eq_true (by omega)]
def Z3h (R : MI) (k : Nat) (c : Cl) (a w : Bool) (bad good : MB) : Bool :=
 w || ((Option.isSome (mget c.2.2.2.1 R) && (!a && decide (Option.getD (mget c.2.2.2.1 R) 0 < (k : Int)))) || Z95 c.2.2.2.2.2.1 bad good)
def Z4g (R : MI) : Nat → List Cl → List Bool → List Bool → MB → MB → List Bool
 | k, c :: r, a :: A, w :: W, bad, good => Z3h R k c a w bad good :: (match Z3h R k c a w bad good with
  | true => Z4g R (k + 1) r A W (mset c.2.2.1 true bad) good
  | false => Z4g R (k + 1) r A W bad (mset c.2.2.1 true good))
 | _, _, _, _, _, _ => []
theorem Z4n (R : MI) (k : Nat) (c : Cl) (r : List Cl) (a w : Bool) (A W : List Bool) (bad good : MB) : Z4g R k (c :: r) (a :: A) (w :: W) bad good = Z3h R k c a w bad good :: (match Z3h R k c a w bad good with
  | true => Z4g R (k + 1) r A W (mset c.2.2.1 true bad) good
  | false => Z4g R (k + 1) r A W bad (mset c.2.2.1 true good)) := rfl
theorem Zez {l : List Cl} (hl : l.length ≤ 1000) (hu : ∀ c ∈ l, c.2.2.2.2.2.1.length ≤ 1000) {A W : List Bool} (hA : A.length = l.length) (hW : W.length = l.length) (S : MB) (R : MI) : ∀ (n k : Nat) (o : List Bool) (bad good : MB), l.length - k = n → k ≤ l.length → o.length = l.length →
  ∃ b' g', Qo.l0 (A, (W, S)) R l (l.length : Int) (k : Int) o bad good = some (o.take k ++ Z4g R k (l.drop k) (A.drop k) (W.drop k) bad good, b', g') := by
 intro n
 induction n with
 | zero =>
  intro k o bad good hk hkl ho
  refine ⟨bad, good, Z1 ?_⟩
  simp only [Qo.s0, Z3]
  rw [if_neg (by omega), List.drop_eq_nil_of_le (by omega), List.take_of_length_le (by omega)]
  simp [Z4g]
 | succ n ih =>
  intro k o bad good hk hkl ho
  have hlt : k < l.length := by omega
  have hltA : k < A.length := by omega
  have hltW : k < W.length := by omega
  have e : ((k : Int) + 1) = ((k + 1 : Nat) : Int) := by omega
  have gA : rd false A (k : Int) = A[k] := by simp [rd, List.getD, List.getElem?_eq_getElem hltA]
  have gW : rd false W (k : Int) = W[k] := by simp [rd, List.getD, List.getElem?_eq_getElem hltW]
  have c1 : ∀ {β : Type} (x : Option β), ck (0 ≤ (k : Int) ∧ (k : Int) < ((List.length W : Nat) : Int)) x = x := fun x => Z0 ⟨by omega, by omega⟩
  have c2 : ∀ {β : Type} (x : Option β), ck (0 ≤ (k : Int) ∧ (k : Int) < ((List.length A : Nat) : Int)) x = x := fun x => Z0 ⟨by omega, by omega⟩
  have c3 : ∀ {β : Type} (x : Option β), ck (InR (((k + 1 : Nat) : Int))) x = x := fun x => Zn (by omega) (by omega)
  have c4 : ∀ {β : Type} (x : Option β), ck (0 ≤ (k : Int) ∧ (k : Int) < ((List.length o : Nat) : Int)) x = x := fun x => Z0 ⟨by omega, by omega⟩
  have c5 : ∀ {β : Type} (x : Option β), ck (k < List.length o) x = x := fun x => Z0 (by omega)
  have c6 : ∀ (v : Bool) {β : Type} (x : Option β), ck (0 ≤ (k : Int) ∧ (k : Int) < ((List.length (List.set o k v) : Nat) : Int)) x = x := fun v _ x => Z0 ⟨by omega, by rw [List.length_set]; omega⟩
  have c7 : ∀ (v : Bool) {β : Type} (x : Option β), ck (k < List.length (List.set o k v)) x = x := fun v _ x => Z0 (by rw [List.length_set]; omega)
  have gS : ∀ v : Bool, List.getD (List.set o k v) k false = v := fun v => by simp [List.getD, List.getElem?_set_self (show k < o.length by omega)]
  have hU := uses_eq (hu _ (List.getElem_mem hlt)) bad good
  rw [List.drop_eq_getElem_cons hlt, List.drop_eq_getElem_cons hltA, List.drop_eq_getElem_cons hltW]
  have step : Qo.s0 (A, (W, S)) R l (l.length : Int) (k : Int) o bad good = some (.inl (((k + 1 : Nat) : Int), o.set k (Z3h R k l[k] A[k] W[k] bad good), (match Z3h R k l[k] A[k] W[k] bad good with
    | true => (mset l[k].2.2.1 true bad, good)
    | false => (bad, mset l[k].2.2.1 true good)))) := by
   simp only [Qo.s0]
   rw [decide_eq_true (by omega), cb_t, Z0 ⟨by omega, by omega⟩]
   simp only [Z16 hlt, c1, gW, c2, gA, e, c3, c4, Int.toNat_natCast, c5, c6, c7, gS, hU, ob_s]
   unfold Z3h
   cases W[k] with
   | true => rfl
   | false =>
    cases Option.isSome (mget l[k].2.2.2.1 R) with
    | false =>
     cases Z95 l[k].2.2.2.2.2.1 bad good <;> rfl
    | true =>
     cases A[k] with
     | true => cases Z95 l[k].2.2.2.2.2.1 bad good <;> rfl
     | false =>
      cases decide (Option.getD (mget l[k].2.2.2.1 R) 0 < (k : Int)) with
      | true => rfl
      | false => cases Z95 l[k].2.2.2.2.2.1 bad good <;> rfl
  have ht : (o.set k (Z3h R k l[k] A[k] W[k] bad good)).take (k + 1) = o.take k ++ [Z3h R k l[k] A[k] W[k] bad good] := by
   rw [List.take_add_one, List.take_set_of_le (Nat.le_refl k), List.getElem?_set_self (by omega)]
   rfl
  cases hb : Z3h R k l[k] A[k] W[k] bad good with
  | true =>
   rw [hb] at step ht
   obtain ⟨b', g', h⟩ := ih (k + 1) (o.set k true) (mset l[k].2.2.1 true bad) good (by omega) (by omega) (by simp [ho])
   refine ⟨b', g', (Z4 step).trans (h.trans ?_)⟩
   rw [ht, Z4n, hb]
   simp
  | false =>
   rw [hb] at step ht
   obtain ⟨b', g', h⟩ := ih (k + 1) (o.set k false) bad (mset l[k].2.2.1 true good) (by omega) (by omega) (by simp [ho])
   refine ⟨b', g', (Z4 step).trans (h.trans ?_)⟩
   rw [ht, Z4n, hb]
   simp
end Go.Proofs.YtahlodpolggeiaaGreatDoor
set_option linter.unusedVariables false
set_option linter.unusedSimpArgs false
namespace Go.Proofs.YtahlodpolggeiaaGreatDoor
open Go Go.Lib Go.Proofs.YtahlodpolggeiaaGreatDoor.Eng
theorem Z2s (R : MI) : ∀ (l : List Cl) (k : Nat) (A W : List Bool) (bad good : MB), A.length = l.length → W.length = l.length → (Z4g R k l A W bad good).length = l.length
 | [], k, A, W, _, _, _, _ => by simp [Z4g]
 | c :: r, k, [], W, _, _, h, _ => by simp at h
 | c :: r, k, a :: A, [], _, _, _, h => by simp at h
 | c :: r, k, a :: A, w :: W, bad, good, h1, h2 => by
  rw [Z4n]
  have e1 : A.length = r.length := by simpa using h1
  have e2 : W.length = r.length := by simpa using h2
  cases Z3h R k c a w bad good with
  | true => simp only [List.length_cons, Z2s R r (k + 1) A W _ _ e1 e2]
  | false => simp only [List.length_cons, Z2s R r (k + 1) A W _ _ e1 e2]
theorem mem_nums : ∀ (L : List Bool) (k : Nat) (x : Int), x ∈ nums k L ↔ ∃ j : Nat, x = ((k + j : Nat) : Int) ∧ L[j]? = some true
 | [], k, x => by simp [nums]
 | b :: r, k, x => by
  have ih := mem_nums r (k + 1) x
  have shift : (∃ j : Nat, x = ((k + j : Nat) : Int) ∧ (b :: r)[j]? = some true) ↔ (x = (k : Int) ∧ b = true) ∨ ∃ j : Nat, x = ((k + 1 + j : Nat) : Int) ∧ r[j]? = some true := by
   constructor
   ·rintro ⟨j, h1, h2⟩
    cases j with
    | zero => exact .inl ⟨by simpa using h1, by simpa using h2⟩
    | succ j => exact .inr ⟨j, by omega, by simpa using h2⟩
   ·rintro (⟨h1, h2⟩ | ⟨j, h1, h2⟩)
    ·exact ⟨0, by simpa using h1, by simp [h2]⟩
    ·exact ⟨j + 1, by omega, by simpa using h2⟩
  rw [shift]
  cases b with
  | true =>
   show x ∈ (k : Int) :: nums (k + 1) r ↔ _
   rw [List.mem_cons, ih]
   simp
  | false =>
   show x ∈ nums (k + 1) r ↔ _
   rw [ih]
   simp
theorem Z5l {X : List Int} (hX : X.length ≤ 1000000000) (x : Int) : ∀ (n k : Nat), X.length - k = n → ∃ r, Qe.l0 X x (X.length : Int) (k : Int) = some r ∧ ((r = .inr () ∧ x ∉ X.drop k) ∨ ∃ j : Nat, r = .inl (j : Int) ∧ x ∈ X.drop k) := by
 intro n
 induction n with
 | zero =>
  intro k hk
  refine ⟨.inr (), Z1 ?_, .inl ⟨rfl, ?_⟩⟩
  ·simp only [Qe.s0, Z3]
   rw [if_neg (by omega)]
  ·rw [List.drop_eq_nil_of_le (by omega)]; simp
 | succ n ih =>
  intro k hk
  have hlt : k < X.length := by omega
  have e : ((k : Int) + 1) = ((k + 1 : Nat) : Int) := by omega
  obtain ⟨r, h1, h2⟩ := ih (k + 1) (by omega)
  rw [List.drop_eq_getElem_cons hlt]
  by_cases hx : x = X[k]
  ·refine ⟨.inl (k : Int), Z1 ?_, .inr ⟨k, rfl, by rw [← hx]; exact List.mem_cons_self ..⟩⟩
   simp only [Qe.s0]
   rw [decide_eq_true (by omega), cb_t, Z0 ⟨by omega, by omega⟩, Z16 hlt, decide_eq_true hx]
   rfl
  ·refine ⟨r, (Z4 ?_).trans h1, ?_⟩
   ·simp only [Qe.s0]
    rw [decide_eq_true (by omega), cb_t, Z0 ⟨by omega, by omega⟩, Z16 hlt, decide_eq_false hx]
    simp only [cb_f]
    rw [Zn (by omega) (by omega), e]
   ·rcases h2 with ⟨h2, h3⟩ | ⟨j, h2, h3⟩
    ·exact .inl ⟨h2, by rw [List.mem_cons, not_or]; exact ⟨hx, h3⟩⟩
    ·exact .inr ⟨j, h2, List.mem_cons_of_mem _ h3⟩
theorem Zct {X : List Int} (hX : X.length ≤ 1000000000) {x : Int} (h : x ∈ X) : Qv.f X x = some true := by
 obtain ⟨r, h1, h2⟩ := Z5l hX x _ 0 rfl
 rw [show ((0 : Nat) : Int) = 0 from rfl] at h1
 unfold Qv.f Qe.f
 simp only [h1, ob_s]
 rcases h2 with ⟨rfl, h3⟩ | ⟨j, rfl, h3⟩
 ·rw [List.drop_zero] at h3; exact absurd h h3
 ·show some (decide ((0 : Int) ≤ (j : Int))) = _
  rw [decide_eq_true (by omega)]
end Go.Proofs.YtahlodpolggeiaaGreatDoor
set_option linter.unusedVariables false
set_option linter.unusedSimpArgs false
namespace Go.Proofs.YtahlodpolggeiaaGreatDoor
open Go Go.Lib Go.Proofs.YtahlodpolggeiaaGreatDoor.Eng
noncomputable def fcs0 (l : List Cl) (m : List Au) : Fc := fcs l m (List.replicate l.length false, List.replicate l.length false, [])
noncomputable def Zfb (l : List Cl) (m : List Au) : MI := Z7g (fcs0 l m).2.2 0 l (fcs0 l m).1 (fcs0 l m).2.1 (Z8h (-1 : Int) (fcs0 l m).2.2 []) []
noncomputable def Z4f (l : List Cl) (m : List Au) : List Bool := Z4g (Zfb l m) 0 l (fcs0 l m).1 (fcs0 l m).2.1 [] []
theorem Z75 (l : List Cl) (m : List Au) : (fcs0 l m).1.length = l.length ∧ (fcs0 l m).2.1.length = l.length := by
 have h := Zgn l m (List.replicate l.length false, List.replicate l.length false, [])
 unfold fcs0
 exact ⟨by rw [h.1]; simp, by rw [h.2]; simp⟩
theorem OkA.few {l : List Cl} {m : List Au} (hA : OkA l m) : ∀ c ∈ l, c.2.2.2.2.2.1.length ≤ 1000 := fun c hc => Nat.le_trans (hA.log.ok c hc).2.many (by decide)
theorem Z8j {l : List Cl} {m : List Au} (hA : OkA l m) : Qo.f l m = some (Z4f l m) := by
 have hl := hA.log.len
 obtain ⟨h1, h2⟩ := Z75 l m
 obtain ⟨b', g', h3⟩ := Zez hl hA.few h1 h2 (fcs0 l m).2.2 (Zfb l m) _ 0 (List.replicate l.length false) [] [] rfl (Nat.zero_le _) (by simp)
 rw [show ((0 : Nat) : Int) = 0 from rfl, List.drop_zero, List.drop_zero, List.drop_zero, List.take_zero, List.nil_append] at h3
 have h4 := Zi1 hl h1 h2 (fcs0 l m).2.2
 have hf : Ql.f l m = some ((fcs0 l m).1, ((fcs0 l m).2.1, (fcs0 l m).2.2)) := Ziu hA
 have hck : ∀ {β : Type} (a : Option β), ck (0 ≤ ((List.length l : Nat) : Int) ∧ ((List.length l : Nat) : Int) * (1 : Int) ≤ 140737488355328) a = a := fun a => Z0 ⟨by omega, by omega⟩
 unfold Qo.f
 simp only [hf, ob_s, h4, hck, Int.toNat_natCast]
 show ob (Qo.l0 _ (Zfb l m) l (l.length : Int) 0 (List.replicate l.length false) [] []) _ = _
 rw [h3]
 rfl
theorem Zeo {l : List Cl} {m : List Au} (hA : OkA l m) (h0 : Q5.f l m = some 0) : Q1p.f l m = some (nums 0 (Z4f l m), 0) := by
 obtain ⟨h1, h2⟩ := Z75 l m
 have hT : (Z4f l m).length = l.length := Z2s _ _ _ _ _ _ _ h1 h2
 have hl := hA.log.len
 unfold Q1p.f
 simp only [h0, ob_s, decide_true, Bool.not_true, cb_f, Z8j hA, Ze6 (show (Z4f l m).length ≤ 1000 by omega)]
end Go.Proofs.YtahlodpolggeiaaGreatDoor
set_option linter.unusedVariables false
set_option linter.unusedSimpArgs false
namespace Go.Proofs.YtahlodpolggeiaaGreatDoor
open Go Go.Lib Go.Proofs.YtahlodpolggeiaaGreatDoor.Eng
end Go.Proofs.YtahlodpolggeiaaGreatDoor
set_option linter.unusedVariables false
set_option linter.unusedSimpArgs false
namespace Go.Proofs.YtahlodpolggeiaaGreatDoor
open Go Go.Lib Go.Proofs.YtahlodpolggeiaaGreatDoor.Eng
def accB (u : ByteArray) : Nat → List Cl → List Bool → Bool → Bool → Bool × Bool
 | n + 1, c :: r, t :: T, x, y => (match decide (c.2.2.1 = u) with
  | true => accB u n r T (x || t) (y || !t)
  | false => accB u n r T x y)
 | _, _, _, x, y => (x, y)
theorem Z3u (u : ByteArray) (l : List Cl) (T : List Bool) (x y : Bool) : accB u 0 l T x y = (x, y) := by
 cases l <;> cases T <;> rfl
theorem Z3v (u : ByteArray) (n : Nat) (c : Cl) (r : List Cl) (t : Bool) (T : List Bool) (x y : Bool) : accB u (n + 1) (c :: r) (t :: T) x y = (match decide (c.2.2.1 = u) with
  | true => accB u n r T (x || t) (y || !t)
  | false => accB u n r T x y) := rfl
theorem Z89 (u : ByteArray) : ∀ (n : Nat) (l : List Cl) (T : List Bool) (x y : Bool) (h1 : n < l.length) (h2 : n < T.length), accB u (n + 1) l T x y = (match decide (l[n].2.2.1 = u) with
  | true => ((accB u n l T x y).1 || T[n], (accB u n l T x y).2 || !T[n])
  | false => accB u n l T x y)
 | n, [], _, _, _, h, _ => by simp at h
 | n, c :: r, [], _, _, _, h => by simp at h
 | 0, c :: r, t :: T, x, y, _, _ => by
  rw [Z3v, Z3u]
  show _ = (match decide (c.2.2.1 = u) with | true => (x || t, y || !t) | false => (x, y))
  cases decide (c.2.2.1 = u) with
  | true => exact Z3u u r T _ _
  | false => exact Z3u u r T _ _
 | n + 1, c :: r, t :: T, x, y, h1, h2 => by
  have k1 : n < r.length := by simpa using h1
  have k2 : n < T.length := by simpa using h2
  rw [Z3v, Z3v]
  cases hc : decide (c.2.2.1 = u) with
  | true => exact Z89 u n r T _ _ k1 k2
  | false => exact Z89 u n r T _ _ k1 k2
theorem Z6d (u : ByteArray) : ∀ (n : Nat) (l : List Cl) (T T' : List Bool) (x y : Bool), T.length = T'.length → T.take n = T'.take n → accB u n l T x y = accB u n l T' x y
 | 0, l, T, T', x, y, _, _ => by rw [Z3u, Z3u]
 | n + 1, [], T, T', x, y, _, _ => by simp [accB]
 | n + 1, c :: r, [], T', x, y, h, _ => by
  have : T' = [] := List.eq_nil_of_length_eq_zero (by simpa using h.symm)
  rw [this]
 | n + 1, c :: r, t :: T, [], x, y, h, _ => by simp at h
 | n + 1, c :: r, t :: T, t' :: T', x, y, h, h2 => by
  rw [List.take_succ_cons, List.take_succ_cons] at h2
  injection h2 with h3 h4
  subst h3
  rw [Z3v, Z3v, Z6d u n r T T' _ _ (by simpa using h) h4, Z6d u n r T T' _ _ (by simpa using h) h4]
def Bears (l : List Cl) (T : List Bool) (n : Nat) (bad good : MB) : Prop := ∀ u, accB u n l T false false = (Option.getD (mget u bad) false, Option.getD (mget u good) false)
theorem Bears.step {l : List Cl} {T : List Bool} {n : Nat} {bad good : MB} (h : Bears l T n bad good) (h1 : n < l.length) (h2 : n < T.length) (b : Bool) : Bears l (T.set n b) (n + 1) (match b with | true => mset l[n].2.2.1 true bad | false => bad) (match b with | true => good | false => mset l[n].2.2.1 true good) := fun u => by
 have hs : n < (T.set n b).length := by simpa using h2
 rw [Z89 u n l (T.set n b) false false h1 hs, Z6d u n l (T.set n b) T false false (by simp) (List.take_set_of_le (Nat.le_refl n)), h u, List.getElem_set_self]
 by_cases hu : l[n].2.2.1 = u
 ·rw [decide_eq_true hu]
  cases b with
  | true =>
   show _ = (Option.getD (mget u (mset l[n].2.2.1 true bad)) false, _)
   rw [Z41, if_pos hu.symm]
   simp
  | false =>
   show _ = (_, Option.getD (mget u (mset l[n].2.2.1 true good)) false)
   rw [Z41, if_pos hu.symm]
   simp
 ·rw [decide_eq_false hu]
  cases b with
  | true =>
   show _ = (Option.getD (mget u (mset l[n].2.2.1 true bad)) false, _)
   rw [Z41, if_neg (fun e => hu e.symm)]
  | false =>
   show _ = (_, Option.getD (mget u (mset l[n].2.2.1 true good)) false)
   rw [Z41, if_neg (fun e => hu e.symm)]
end Go.Proofs.YtahlodpolggeiaaGreatDoor
set_option linter.unusedVariables false
set_option linter.unusedSimpArgs false
namespace Go.Proofs.YtahlodpolggeiaaGreatDoor
open Go Go.Lib Go.Proofs.YtahlodpolggeiaaGreatDoor.Eng
abbrev MS : Type := List (ByteArray × Sc)
abbrev SC0 : Sc := (ByteArray.empty, ((0 : Int), (0 : Int)))
def one (b : Bool) : Int := match b with | true => 1 | false => 0
def upS (M : MS) (w : ByteArray) (a b : Bool) : MS := mset w (w, ((Option.getD (mget w M) SC0).2.1 + one a, (Option.getD (mget w M) SC0).2.2 + one b)) M
def Few (M : MS) (k : Nat) : Prop := ∀ u, 0 ≤ (Option.getD (mget u M) SC0).2.1 ∧ (Option.getD (mget u M) SC0).2.1 ≤ (k : Int) ∧ 0 ≤ (Option.getD (mget u M) SC0).2.2 ∧ (Option.getD (mget u M) SC0).2.2 ≤ (k : Int)
theorem Zje (b : Bool) : 0 ≤ one b ∧ one b ≤ 1 := by cases b <;> decide
theorem Few.step {M : MS} {k : Nat} (h : Few M k) (w : ByteArray) (a b : Bool) : Few (upS M w a b) (k + 1) := fun u => by
 have h1 := h u
 have h2 := h w
 have ha := Zje a
 have hb := Zje b
 unfold upS
 rw [Z41]
 by_cases hu : u = w
 ·rw [if_pos hu]
  simp only [Option.getD_some]
  omega
 ·rw [if_neg hu]
  omega
end Go.Proofs.YtahlodpolggeiaaGreatDoor
set_option linter.unusedVariables false
set_option linter.unusedSimpArgs false
namespace Go.Proofs.YtahlodpolggeiaaGreatDoor
open Go Go.Lib Go.Proofs.YtahlodpolggeiaaGreatDoor.Eng
end Go.Proofs.YtahlodpolggeiaaGreatDoor
set_option linter.unusedVariables false
set_option linter.unusedSimpArgs false
set_option maxRecDepth 10000
namespace Go.Proofs.YtahlodpolggeiaaGreatDoor
open Go Go.Proofs.YtahlodpolggeiaaGreatDoor.Eng
def dayN (m : List Au) (t : Int) : Nat := (m.takeWhile fun a => decide (a.2.2 ≤ t)).length
theorem Zh0 (m : List Au) (t : Int) : dayN m t ≤ m.length := by
 unfold dayN
 exact (List.takeWhile_prefix _).length_le
theorem Zbk (a : Au) (m : List Au) (t : Int) : dayN (a :: m) t = if a.2.2 ≤ t then dayN m t + 1 else 0 := by
 unfold dayN
 by_cases h : a.2.2 ≤ t
 ·rw [List.takeWhile_cons_of_pos (by simpa using h), if_pos h]; rfl
 ·rw [List.takeWhile_cons_of_neg (by simpa using h), if_neg h]; rfl
theorem dayLoop {m : List Au} (hm : m.length ≤ 1000) (t : Int) (o1 : ByteArray) (o2 : Bool) (o3 : Int) : ∀ (n k : Nat), m.length - k = n → Q8.l0 m t (k : Int) o1 o2 o3 = some ((((k + dayN (m.drop k) t : Nat)) : Int), o1, o2, o3) := by
 intro n
 induction n with
 | zero =>
  intro k hk
  rw [List.drop_eq_nil_of_le (by omega)]
  refine Z1 ?_
  simp only [Q8.s0, Z3]
  rw [if_neg (by omega)]
  rfl
 | succ n ih =>
  intro k hk
  have hlt : k < m.length := by omega
  rw [List.drop_eq_getElem_cons hlt, Zbk]
  by_cases h : m[k].2.2 ≤ t
  ·rw [if_pos h]
   refine (Z4 (x' := (((k + 1 : Nat) : Int), o1, o2, o3)) ?_).trans ((ih (k + 1) (by omega)).trans ?_)
   ·simp only [Q8.s0, Z3]
    rw [if_pos (by omega), Z0 ⟨by omega, by omega⟩, Z16 hlt, if_pos h, Zn (by omega) (by omega)]
    rfl
   ·congr 3; omega
  ·rw [if_neg h]
   refine Z1 ?_
   simp only [Q8.s0, Z3]
   rw [if_pos (by omega), Z0 ⟨by omega, by omega⟩, Z16 hlt, if_neg h]
   rfl
theorem OkA.cut {l : List Cl} {m : List Au} (h : OkA l m) (n : Nat) : OkA l (m.take n) :=
 ⟨h.log, by rw [List.length_take]; have := h.len; omega, fun a ha => h.num a (List.mem_of_mem_take ha)⟩
theorem Zhg {X E R : Type} {f : X → Int → E → Option (X ⊕ R)} {e : E} {r : List E} {x x' : X} (h : f x (r.length : Int) e = some (.inl x')) : Z6b f (e :: r) x = Z6b f r x' := by simp only [Z6b, h]
theorem Zhf {X E R : Type} {f : X → Int → E → Option (X ⊕ R)} {e : E} {r : List E} {x : X} {y : R} (h : f x (r.length : Int) e = some (.inr y)) : Z6b f (e :: r) x = some (.inr y) := by simp only [Z6b, h]
abbrev Ans : Type := ByteArray × (Bool × Int)
def zB (o : Ans) : Option Ans → Ans ⊕ Ans
 | none => .inl o
 | some y => .inr y
def zF : Option Ans → Ans
 | none => (bs_, (false, 0))
 | some y => y
def Pick (ws : List Wr) (l : List Cl) (key : ByteArray) (t : Int) (T : List Bool) (k : Nat) (y : ByteArray × (Bool × Int)) : Prop :=
 ∃ i : Nat, ∃ h : i < l.length, i < k ∧ y = (l[i].2.2.1, (true, 0)) ∧ l[i].2.2.2.2.1 ≤ t ∧ l[i].1 = key ∧ T[i]? = some false ∧ Q15.f ws l[i] = some 1
end Go.Proofs.YtahlodpolggeiaaGreatDoor
set_option linter.unusedVariables false
set_option linter.unusedSimpArgs false
set_option maxRecDepth 10000
namespace Go.Proofs.YtahlodpolggeiaaGreatDoor
open Go Go.Proofs.YtahlodpolggeiaaGreatDoor.Eng
end Go.Proofs.YtahlodpolggeiaaGreatDoor
set_option linter.unusedVariables false
set_option linter.unusedSimpArgs false
set_option maxRecDepth 10000
namespace Go.Proofs.YtahlodpolggeiaaGreatDoor
open Go Go.Proofs.YtahlodpolggeiaaGreatDoor.Eng
theorem Z1s {β : Type} {b : Bool} {x y : Option β} {q : β} (h : cb b x y = some q) : (b = true ∧ x = some q) ∨ (b = false ∧ y = some q) := by
 cases b with
 | true => exact .inl ⟨rfl, h⟩
 | false => exact .inr ⟨rfl, h⟩
def szV (w : Wr) : Prop := w.1.size ≤ BIG ∧ w.2.1.size ≤ BIG ∧ ∀ y ∈ w.2.2.1, y.size ≤ BIG
def okV (w : Wr) : Prop := w.2.1.size ≤ 100 ∧ w.2.2.1.length ≤ 30
theorem okV_of {w : Wr} (h : Qa.f w = some 0) : okV w := by
 unfold Qa.f at h
 obtain ⟨r1, _, h1⟩ := Z36 h
 rcases Z1s h1 with ⟨_, h2⟩ | ⟨_, h2⟩
 ·cases h2
 obtain ⟨r2, hr2, h3⟩ := Z36 h2
 rcases Z1s h3 with ⟨_, h4⟩ | ⟨hb, h4⟩
 ·cases h4
 have hr3 : r2 = true := by cases r2 with | true => rfl | false => cases hb
 rw [hr3] at hr2
 have h5 : cb (decide ((30 : Int) < ((List.length w.2.2.1 : Nat) : Int))) (some (2 : Int)) _ = some 0 := h4
 rcases Z1s h5 with ⟨_, h6⟩ | ⟨hl, h6⟩
 ·cases h6
 have hl := of_decide_eq_false hl
 unfold Q1e.f at hr2
 have hr2 : cb (decide ((1 : Int) ≤ ((ByteArray.size w.2.1 : Nat) : Int))) (cb (decide (((ByteArray.size w.2.1 : Nat) : Int) ≤ (100 : Int))) _ _) _ = some true := hr2
 rcases Z1s hr2 with ⟨_, h7⟩ | ⟨_, h7⟩
 ·rcases Z1s h7 with ⟨hs, h8⟩ | ⟨_, h8⟩
  ·have hs := of_decide_eq_true hs
   exact ⟨by omega, by omega⟩
  ·cases h8
 ·cases h7
theorem writerV {w : Wr} (hw : szV w) : ∃ c, Qa.f w = some c := by
 have hb : BIG = 140737488355328 := rfl
 obtain ⟨r, r1, r2⟩ := prefs (w := w) hw.2.2
 obtain ⟨b, b1⟩ := Zca (s := w.2.1) hw.2.1
 unfold Qa.f
 simp only [Z5c, Zcm (s := w.2.1) hw.2.1, b1, ob_s, r2, Z1t]
 cases Z93 w.1 with
 | false => exact ⟨_, rfl⟩
 | true =>
  cases b with
  | false => exact ⟨_, rfl⟩
  | true =>
   simp only [Bool.not_true, cb_f]
   split
   ·cases decide (0 ≤ w.2.2.2.1 ∧ w.2.2.2.1 ≤ 1000000000) with
    | false => exact ⟨_, rfl⟩
    | true =>
     cases decide (0 ≤ w.2.2.2.2 ∧ w.2.2.2.2 ≤ 1000000001) with
     | false => exact ⟨_, rfl⟩
     | true =>
      simp only [Bool.not_true, cb_f, Z3]
      split <;> exact ⟨_, rfl⟩
   ·exact ⟨_, rfl⟩
theorem Zem {l : List Wr} (hl : l.length ≤ 1000) (hs : ∀ w ∈ l, szV w) : ∀ (n k : Nat), l.length - k = n → (∃ f : Int, f ≠ 0 ∧ Q6.l0 l l (l.length : Int) (k : Int) = some (.inl f)) ∨
  (Q6.l0 l l (l.length : Int) (k : Int) = some (.inr ()) ∧ (∀ i : Nat, ∀ h : i + 1 < l.length, k ≤ i + 1 → cmpS (l[i]'(by omega)).1 l[i + 1].1 < 0) ∧ ∀ i : Nat, ∀ h : i < l.length, k ≤ i → Qa.f l[i] = some 0) := by
 intro n
 induction n with
 | zero =>
  intro k hn
  refine .inr ⟨Z1 ?_, fun i h hki => by omega, fun i h hki => by omega⟩
  simp only [Q6.s0, Z3]
  rw [if_neg (by omega)]
 | succ n ih =>
  intro k hn
  have hlt : k < l.length := by omega
  obtain ⟨f, h1⟩ := writerV (hs _ (List.getElem_mem hlt))
  by_cases hf : f = 0
  ·subst hf
   have cont : (∀ h0 : 0 < k, ¬ cmpS l[k].1 (l[k - 1]'(by omega)).1 ≤ 0) → Q6.s0 l l (l.length : Int) (k : Int) = some (.inl ((k : Int) + 1)) → (∃ f : Int, f ≠ 0 ∧ Q6.l0 l l (l.length : Int) (k : Int) = some (.inl f)) ∨
     (Q6.l0 l l (l.length : Int) (k : Int) = some (.inr ()) ∧ (∀ i : Nat, ∀ h : i + 1 < l.length, k ≤ i + 1 → cmpS (l[i]'(by omega)).1 l[i + 1].1 < 0) ∧ ∀ i : Nat, ∀ h : i < l.length, k ≤ i → Qa.f l[i] = some 0) := fun hc hstep => by
    rcases ih (k + 1) (by omega) with ⟨f, h3, h4⟩ | ⟨h3, h5, h9⟩
    ·exact .inl ⟨f, h3, (Z4 hstep).trans h4⟩
    ·refine .inr ⟨(Z4 hstep).trans h3, fun i hi hki => ?_, fun i hi hki => (by
      rcases Nat.lt_or_ge k i with h | h
      ·exact h9 i hi (by omega)
      ·obtain rfl : i = k := by omega
       exact h1)⟩
     rcases Nat.lt_or_ge i k with h6 | h6
     ·have e : k = i + 1 := by omega
      subst e
      have h8 : ¬ cmpS l[i + 1].1 (l[i]'(by omega)).1 ≤ 0 := hc (by omega)
      have := Zh5 l[i + 1].1 (l[i]'(by omega)).1
      omega
     ·exact h5 i hi (by omega)
   rcases Nat.eq_zero_or_pos k with h0 | h0
   ·subst h0
    refine cont (fun h => absurd h (Nat.lt_irrefl _)) ?_
    simp only [Q6.s0, Z3, Z16 hlt, h1, ob_s, decide_true, Bool.not_true, cb_f]
    rw [if_pos (by omega), Z0 (by omega), if_neg (by omega), Zn (by omega) (by omega)]
   ·obtain ⟨k', rfl⟩ : ∃ k', k = k' + 1 := ⟨k - 1, by omega⟩
    have hk' : k' < l.length := by omega
    have e : ((k' + 1 : Nat) : Int) - 1 = (k' : Int) := by omega
    by_cases hc : cmpS l[k' + 1].1 l[k'].1 ≤ 0
    ·refine .inl ⟨8, by decide, Z1 ?_⟩
     simp only [Q6.s0, Z3, Z16 hlt, h1, ob_s, decide_true, Bool.not_true, cb_f, e, Z16 hk', Zfx]
     rw [if_pos (by omega), Z0 (by omega), if_pos (by omega), Zn (by omega) (by omega), Z0 (by omega), if_pos hc]
    ·refine cont (fun _ => hc) ?_
     simp only [Q6.s0, Z3, Z16 hlt, h1, ob_s, decide_true, Bool.not_true, cb_f, e, Z16 hk', Zfx]
     rw [if_pos (by omega), Z0 (by omega), if_pos (by omega), Zn (by omega) (by omega), Z0 (by omega), if_neg hc, Zn (by omega) (by omega)]
  ·refine .inl ⟨f, hf, Z1 ?_⟩
   simp only [Q6.s0, Z3, Z16 hlt, h1, ob_s]
   rw [if_pos (by omega), Z0 (by omega), decide_eq_false hf]
   rfl
theorem Zcu {l : List Wr} (hs : ∀ w ∈ l, szV w) : ∃ c : Int, Q6.f l = some c ∧ (c = 0 → l.length ≤ 50 ∧ Rising (labs l) ∧ ∀ w ∈ l, okV w) := by
 unfold Q6.f
 simp only [Z3]
 by_cases h1 : (50 : Int) < ((l.length : Nat) : Int)
 ·rw [if_pos h1]; exact ⟨2, rfl, fun h => by cases h⟩
 ·rw [if_neg h1]
  have h2 := Zem (l := l) (by omega) hs l.length 0 (by omega)
  rw [show ((0 : Nat) : Int) = 0 from rfl] at h2
  rcases h2 with ⟨f, h3, h4⟩ | ⟨h3, h4, h5⟩
  ·rw [h4]; exact ⟨f, rfl, fun h => absurd h h3⟩
  ·rw [h3]
   refine ⟨0, rfl, fun _ => ⟨by omega, Zcd fun k hk => ?_, fun w hw => ?_⟩⟩
   ·have hk' : k + 1 < l.length := by unfold labs at hk; simpa using hk
    rw [Z2g (by omega), Z2g hk']
    exact h4 k hk' (by omega)
   ·obtain ⟨i, hi, rfl⟩ := List.getElem_of_mem hw
    exact okV_of (h5 i hi (Nat.zero_le _))
theorem genV {ws : List Wr} (hl : ws.length ≤ 50) (hr : Rising (labs ws)) (hok : ∀ w ∈ ws, okV w) (h0 : Q6.f ws = some 0) {c : Cl} (ho : OkC c) (hk : Q9.f c = some 0) :
  ∃ g, Q15.f ws c = some g ∧ Q1k.f ws c = some (g, 0) := by
 have hb : Q1c.f ws c = some 0 := by
  unfold Q1c.f
  rw [h0, ob_s, hk]
  rfl
 have hg : ∃ g, Q15.f ws c = some g := by
  by_cases hx : ∃ k : Nat, ∃ h : k < ws.length, ws[k].1 = c.2.2.2.1
  ·obtain ⟨k, hkl, he⟩ := hx
   have h1 := Zit hl hr hkl he
   have hw := hok _ (List.getElem_mem hkl)
   have h2 := (sig_eq (s := ws[k].2.1) (by have := hw.1; omega) ho).1
   have h4 := Zjf (w := ws[k]) (by have := hw.2; omega) c.2.1 c.2.2.2.2.1
   unfold Q15.f
   rw [h1]
   simp only [ob_s, Bool.not_true, cb_f, h2, h4]
   cases !decide (c.2.2.2.2.2.2 = sigB ws[k].2.1 c) with
   | true => exact ⟨_, rfl⟩
   | false => cases mayB ws[k] c.2.1 c.2.2.2.2.1 <;> exact ⟨_, rfl⟩
  ·obtain ⟨r, h1, h2⟩ := Zgk hl hr (fun k hkl he => hx ⟨k, hkl, he⟩)
   unfold Q15.f
   rw [h1]
   simp only [ob_s, h2, Bool.not_false, cb_t]
   exact ⟨_, rfl⟩
 obtain ⟨g, hg⟩ := hg
 refine ⟨g, hg, ?_⟩
 unfold Q1k.f
 rw [hb, ob_s, show (!decide ((0 : Int) = 0)) = false from rfl, cb_f, hg]
 rfl
theorem Zg5 {ws : List Wr} {l : List Cl} (hl : l.length ≤ 1000) (key : ByteArray) (t : Int) {T : List Bool} (hT : T.length = l.length) (hg : ∀ c ∈ l, ∃ g, Q15.f ws c = some g) (o : ByteArray × (Bool × Int)) :
  ∀ k, k ≤ l.length → ∃ z : Option (ByteArray × (Bool × Int)),
   Z6b (fun (x : ByteArray × (Bool × Int)) i v => Q8.s1 ws key t T x.1 x.2.1 x.2.2 i v) (l.take k).reverse o = some (zB o z) ∧ ∀ y, z = some y → Pick ws l key t T k y := by
 intro k
 induction k with
 | zero => exact fun _ => ⟨none, rfl, fun y h => by cases h⟩
 | succ k ih =>
  intro hk
  have hlt : k < l.length := hk
  have hltT : k < T.length := by rw [hT]; exact hlt
  obtain ⟨z, h1, h3⟩ := ih (by omega)
  obtain ⟨g, hg1⟩ := hg _ (List.getElem_mem hlt)
  have htk : (l.take (k + 1)).reverse = l[k] :: (l.take k).reverse := by
   rw [List.take_add_one, List.getElem?_eq_getElem hlt]; simp
  have hrl : ((l.take k).reverse).length = k := by simp; omega
  rw [htk]
  have skip : ∀ (hs1 : Q8.s1 ws key t T o.1 o.2.1 o.2.2 (k : Int) l[k] = some (.inl o)),
    ∃ z : Option (ByteArray × (Bool × Int)), Z6b (fun (x : ByteArray × (Bool × Int)) i v => Q8.s1 ws key t T x.1 x.2.1 x.2.2 i v) (l[k] :: (l.take k).reverse) o = some (zB o z) ∧ ∀ y, z = some y → Pick ws l key t T (k + 1) y := by
   intro hs1
   refine ⟨z, (Zhg (by rw [hrl]; exact hs1)).trans h1, fun y hy => ?_⟩
   obtain ⟨i, a1, a2, a3⟩ := h3 y hy
   exact ⟨i, a1, by omega, a3⟩
  have hck : (0 : Int) ≤ (k : Int) ∧ (k : Int) < ((List.length T : Nat) : Int) := ⟨by omega, by omega⟩
  have hrT : rd false T (k : Int) = T[k] := Z16 hltT
  by_cases hd : l[k].2.2.2.2.1 ≤ t
  ·by_cases hkey : l[k].1 = key
   ·cases hb : T[k] with
    | true => exact skip (by simp only [Q8.s1, decide_eq_true hd, decide_eq_true hkey, cb_t, Z0 hck, hrT, hb, Bool.not_true, cb_f])
    | false =>
     by_cases hg1' : g = 1
     ·subst hg1'
      refine ⟨some (l[k].2.2.1, (true, 0)), Zhf ?_, fun y hy => ?_⟩
      ·rw [hrl]
       simp only [Q8.s1, decide_eq_true hd, decide_eq_true hkey, cb_t, Z0 hck, hrT, hb, Bool.not_false, hg1, ob_s, decide_true]
      ·cases hy
       exact ⟨k, hlt, Nat.lt_succ_self k, rfl, hd, hkey, by rw [List.getElem?_eq_getElem hltT, hb], hg1⟩
     ·exact skip (by simp only [Q8.s1, decide_eq_true hd, decide_eq_true hkey, cb_t, Z0 hck, hrT, hb, Bool.not_false, hg1, ob_s, decide_eq_false hg1', cb_f])
   ·exact skip (by simp only [Q8.s1, decide_eq_true hd, decide_eq_false hkey, cb_t, cb_f])
  ·exact skip (by simp only [Q8.s1, decide_eq_false hd, cb_f])
theorem Zhs {ws : List Wr} (hs : ∀ w ∈ ws, szV w) {l : List Cl} (hr : ∀ c ∈ l, szC c) (m : List Au) (key : ByteArray) (t : Int) :
  ∃ x : ByteArray × (Bool × Int), Q8.f ws l m key t = some x ∧ (x = (bs_, (false, x.2.2)) ∨
   x.2.2 = 0 ∧ x.2.1 = true ∧ OkA l m ∧ Q5.f l m = some 0 ∧ Q6.f ws = some 0 ∧ (ws.length ≤ 50 ∧ Rising (labs ws) ∧ ∀ w ∈ ws, okV w) ∧ Pick ws l key t (Z4f l (m.take (dayN m t))) l.length x) := by
 obtain ⟨f, h1, hwo⟩ := Zcu hs
 by_cases hf : ¬ f = 0
 ·refine ⟨(bs_, false, f), ?_, .inl rfl⟩
  unfold Q8.f; simp only [h1, ob_s, decide_eq_false hf, Bool.not_false, cb_t]
 obtain rfl := Decidable.not_not.1 hf
 obtain ⟨f, h2, hA⟩ := Zj3 hr m
 by_cases hf : ¬ f = 0
 ·refine ⟨(bs_, false, f), ?_, .inl rfl⟩
  unfold Q8.f; simp only [h1, h2, ob_s, decide_true, Bool.not_true, cb_f, decide_eq_false hf, Bool.not_false, cb_t]
 obtain rfl := Decidable.not_not.1 hf
 have hA := hA rfl
 have h3 := Z1q key
 cases hd : digB key with
 | false =>
  rw [hd] at h3
  refine ⟨(bs_, false, 3), ?_, .inl rfl⟩
  unfold Q8.f; simp only [h1, h2, h3, ob_s, decide_true, Bool.not_true, cb_f, Bool.not_false, cb_t]
 | true =>
  rw [hd] at h3
  by_cases hw : ¬ (0 ≤ t ∧ t ≤ 1000000000)
  ·refine ⟨(bs_, false, 1), ?_, .inl rfl⟩
   unfold Q8.f; simp only [h1, h2, h3, Z1t, ob_s, decide_true, Bool.not_true, cb_f, decide_eq_false hw, Bool.not_false, cb_t]
  have hw := Decidable.not_not.1 hw
  have hll := hA.log.len
  have hA' := hA.cut (dayN m t)
  obtain ⟨n1, n2⟩ := Z75 l (m.take (dayN m t))
  have hT : (Z4f l (m.take (dayN m t))).length = l.length := Z2s _ _ _ _ _ _ _ n1 n2
  have hg : ∀ c ∈ l, ∃ g, Q15.f ws c = some g := fun c hc => by
   obtain ⟨g, a, _⟩ := genV (hwo rfl).1 (hwo rfl).2.1 (hwo rfl).2.2 h1 (hA.log.ok c hc).2 (hA.log.ok c hc).1
   exact ⟨g, a⟩
  have l1 := dayLoop hA.len t bs_ false 0 _ 0 rfl
  rw [show ((0 : Nat) : Int) = 0 from rfl, List.drop_zero, Nat.zero_add] at l1
  have hdl := Zh0 m t
  have hck : (0 : Int) ≤ ((dayN m t : Nat) : Int) ∧ ((dayN m t : Nat) : Int) ≤ ((List.length m : Nat) : Int) := ⟨by omega, by omega⟩
  obtain ⟨z, z1, z3⟩ := Zg5 hll key t hT hg (bs_, (false, 0)) l.length (Nat.le_refl _)
  rw [List.take_length] at z1
  have z1' : Q8.l1 ws key t (Z4f l (m.take (dayN m t))) l bs_ false 0 = some (zB (bs_, (false, 0)) z) := z1
  have hbig : ((List.length l : Nat) : Int) ≤ 9223372036854775807 := by omega
  have e1 : Q8.f ws l m key t = some (zF z) := by
   unfold Q8.f
   simp only [h1, h2, h3, Z1t, ob_s, decide_true, Bool.not_true, cb_f, decide_eq_true hw, l1, Z0 hck, Int.toNat_natCast, Z8j hA', Q16.f, Z0 hbig, z1']
   cases z <;> rfl
  cases z with
  | none => exact ⟨_, e1, .inl rfl⟩
  | some y =>
   have hp := z3 y rfl
   refine ⟨_, e1, .inr ⟨?_, ?_, hA, h2, h1, hwo rfl, hp⟩⟩
   ·obtain ⟨i, _, _, rfl, _⟩ := hp; rfl
   ·obtain ⟨i, _, _, rfl, _⟩ := hp; rfl
theorem audStep {l : List Cl} {m : List Au} {k : Nat} (hlt : k < m.length) {q : Int ⊕ (Int ⊕ Unit)} (h : Q5.s0 l m m (m.length : Int) (k : Int) = some q) : q = .inl ((k + 1 : Nat) : Int) ∨ ∃ f, q = .inr (.inl f) := by
 simp only [Q5.s0, Z1t, Z1q, ob_s, decide_eq_true (show (k : Int) < (m.length : Int) by omega), cb_t] at h
 obtain ⟨_, h⟩ := Z14 h
 obtain ⟨_, h⟩ := Z14 h
 have e : ((k : Int) + 1) = ((k + 1 : Nat) : Int) := by omega
 rcases Z1s h with ⟨_, h⟩ | ⟨_, h⟩
 ·cases h; exact .inr ⟨_, rfl⟩
 rcases Z1s h with ⟨_, h⟩ | ⟨_, h⟩
 ·cases h; exact .inr ⟨_, rfl⟩
 obtain ⟨_, h⟩ := Z14 h
 rcases Z1s h with ⟨_, h⟩ | ⟨_, h⟩
 ·cases h; exact .inr ⟨_, rfl⟩
 rcases Z1s h with ⟨_, h⟩ | ⟨_, h⟩
 ·obtain ⟨_, h⟩ := Z14 h
  obtain ⟨_, h⟩ := Z14 h
  rcases Z1s h with ⟨_, h⟩ | ⟨_, h⟩
  ·cases h; exact .inr ⟨_, rfl⟩
  ·obtain ⟨_, h⟩ := Z14 h
   cases h; exact .inl (by rw [e])
 ·obtain ⟨_, h⟩ := Z14 h
  cases h; exact .inl (by rw [e])
theorem Zfg {α : Type} {d : α} {m : List α} {n k : Nat} (h : k < n) : rd d (m.take n) (k : Int) = rd d m (k : Int) := by
 rw [Zfh, Zfh]
 simp only [List.getD, List.getElem?_take, if_pos h]
theorem audCut {l : List Cl} {m : List Au} {n k : Nat} (hn : n ≤ m.length) (hk : k < n) (hll : l.length ≤ 1000) (hmm : m.length ≤ 1000) : Q5.s0 l (m.take n) (m.take n) ((m.take n).length : Int) (k : Int) = Q5.s0 l m m (m.length : Int) (k : Int) := by
 have hl : (m.take n).length = n := by rw [List.length_take]; omega
 simp only [Q5.s0, hl, decide_eq_true (show (k : Int) < (m.length : Int) by omega), decide_eq_true (show (k : Int) < (n : Int) by omega), cb_t, Zfg hk]
 rw [Z0 (show (0 : Int) ≤ (k : Int) ∧ (k : Int) < (n : Int) by omega), Z0 (show (0 : Int) ≤ (k : Int) ∧ (k : Int) < (m.length : Int) by omega)]
 by_cases h0 : (0 : Int) < (k : Int)
 ·obtain ⟨j, rfl⟩ : ∃ j, k = j + 1 := ⟨k - 1, by omega⟩
  have e : (((j + 1 : Nat)) : Int) - 1 = (j : Int) := by omega
  rw [e, Zfg (show j < n by omega), Z0 (show (0 : Int) ≤ (j : Int) ∧ (j : Int) < (n : Int) by omega), Z0 (show (0 : Int) ≤ (j : Int) ∧ (j : Int) < (m.length : Int) by omega)]
 ·rw [decide_eq_false h0]; rfl
theorem audPre {l : List Cl} {m : List Au} {n : Nat} (hn : n ≤ m.length) (hll : l.length ≤ 1000) (hmm : m.length ≤ 1000) : ∀ (d k : Nat), n - k = d → k ≤ n → Q5.l0 l m m (m.length : Int) (k : Int) = some (.inr ()) → Q5.l0 l (m.take n) (m.take n) ((m.take n).length : Int) (k : Int) = some (.inr ()) := by
 have hl : (m.take n).length = n := by rw [List.length_take]; omega
 intro d
 induction d with
 | zero =>
  intro k hd hk _
  refine Z1 ?_
  simp only [Q5.s0, Z3]
  rw [if_neg (by omega)]
 | succ d ih =>
  intro k hd hk h
  have hlt : k < n := by omega
  have e := audCut (l := l) hn hlt hll hmm
  have hs : Q5.l0 l m m (m.length : Int) (k : Int) = (match Q5.s0 l m m (m.length : Int) (k : Int) with
   | none => none
   | some (.inl x') => Q5.l0 l m m (m.length : Int) x'
   | some (.inr r) => some r) := by
   unfold Q5.l0
   rw [Z5y]
   cases Q5.s0 l m m (m.length : Int) (k : Int) with
   | none => rfl
   | some q => cases q <;> rfl
  rw [hs] at h
  cases hq : Q5.s0 l m m (m.length : Int) (k : Int) with
  | none => rw [hq] at h; cases h
  | some q =>
   rw [hq] at h
   rcases audStep (by omega) hq with rfl | ⟨f, rfl⟩
   ·exact (Z4 (e.trans hq)).trans (ih (k + 1) (by omega) (by omega) h)
   ·cases h
theorem aud_cut {l : List Cl} (hs : ∀ c ∈ l, szC c) {m : List Au} (h : Q5.f l m = some 0) (hA : OkA l m) (n : Nat) (hn : n ≤ m.length) : Q5.f l (m.take n) = some 0 := by
 have hll := hA.log.len
 have hmm := hA.len
 obtain ⟨f, h1, _⟩ := Zdf hs
 unfold Q5.f at h ⊢
 rw [h1, ob_s] at h ⊢
 by_cases hf : f = 0
 ·subst hf
  simp only [decide_true, Bool.not_true, cb_f, Z3] at h ⊢
  rw [if_neg (by omega)] at h
  rw [if_neg (by rw [List.length_take]; omega)]
  obtain ⟨r, h3, h4⟩ := Zhi hll (m := m) hmm _ 0 rfl
  rw [show ((0 : Nat) : Int) = 0 from rfl] at h3
  rw [h3, ob_s] at h
  rcases h4 with ⟨rfl, _⟩ | ⟨f', hf', rfl⟩
  ·have := audPre (l := l) hn hll hmm _ 0 rfl (Nat.zero_le _) h3
   rw [show ((0 : Nat) : Int) = 0 from rfl] at this
   rw [this, ob_s]
   rfl
  ·cases h; exact absurd rfl hf'
 ·rw [decide_eq_false hf] at h
  cases h
  exact absurd rfl hf
theorem Z4j {X : List Int} (hX : X.length ≤ 1000000000) (x : Int) : ∃ b, Qv.f X x = some b ∧ (x ∉ X → b = false) := by
 by_cases h : x ∈ X
 ·exact ⟨true, Zct hX h, fun hn => absurd h hn⟩
 ·obtain ⟨r, h1, h2⟩ := Z5l hX x _ 0 rfl
  rw [show ((0 : Nat) : Int) = 0 from rfl] at h1
  refine ⟨false, ?_, fun _ => rfl⟩
  unfold Qv.f Qe.f
  simp only [h1, ob_s]
  rcases h2 with ⟨rfl, _⟩ | ⟨j, rfl, h3⟩
  ·rfl
  ·rw [List.drop_zero] at h3; exact absurd h3 h
theorem Zir {ws : List Wr} {l : List Cl} (hl : l.length ≤ 1000) (key : ByteArray) (t : Int) {X : List Int} (hX : X.length ≤ 1000000000) (hg : ∀ c ∈ l, ∃ g, Q15.f ws c = some g ∧ Q1k.f ws c = some (g, 0))
  {i : Nat} (hi : i < l.length) (h1 : l[i].2.2.2.2.1 ≤ t) (h2 : l[i].1 = key) (h3 : (i : Int) ∉ X) (h4 : Q15.f ws l[i] = some 1) :
  ∀ (n k : Nat), i - k = n → k ≤ i → Q1.l1 ws key t l[i].2.2.1 X l (l.length : Int) (k : Int) = some (.inl true) := by
 intro n
 induction n with
 | zero =>
  intro k hk hki
  obtain rfl : k = i := by omega
  obtain ⟨g, g1, g2⟩ := hg _ (List.getElem_mem hi)
  rw [h4] at g1
  cases g1
  obtain ⟨b, b1, b2⟩ := Z4j hX (k : Int)
  rw [b2 h3] at b1
  refine Z1 ?_
  simp only [Q1.s1, decide_eq_true (show (k : Int) < (l.length : Int) by omega), cb_t, Z0 (show (0 : Int) ≤ (k : Int) ∧ (k : Int) < ((List.length l : Nat) : Int) by omega), Z16 hi, g2, ob_s, decide_true, decide_eq_true h2, decide_eq_true h1, b1, Bool.not_false]
 | succ n ih =>
  intro k hk hki
  have hlt : k < l.length := by omega
  have hnext := ih (k + 1) (by omega) (by omega)
  obtain ⟨g, g1, g2⟩ := hg _ (List.getElem_mem hlt)
  obtain ⟨b, b1, _⟩ := Z4j hX (k : Int)
  have e : ((k : Int) + 1) = ((k + 1 : Nat) : Int) := by omega
  have key' : Q1.s1 ws key t l[i].2.2.1 X l (l.length : Int) (k : Int) = some (.inl ((k + 1 : Nat) : Int)) ∨ Q1.s1 ws key t l[i].2.2.1 X l (l.length : Int) (k : Int) = some (.inr (.inl true)) := by
   simp only [Q1.s1, decide_eq_true (show (k : Int) < (l.length : Int) by omega), cb_t, Z0 (show (0 : Int) ≤ (k : Int) ∧ (k : Int) < ((List.length l : Nat) : Int) by omega), Z16 hlt, g2, ob_s, decide_true, b1, e, Z0 (show InR (((k + 1 : Nat)) : Int) from ⟨by omega, by omega⟩)]
   cases decide (g = 1) with
   | false => exact .inl rfl
   | true =>
    cases decide (l[k].1 = key) with
    | false => exact .inl rfl
    | true =>
     cases decide (l[k].2.2.1 = l[i].2.2.1) with
     | false => exact .inl rfl
     | true =>
      cases decide (l[k].2.2.2.2.1 ≤ t) with
      | false => exact .inl rfl
      | true => cases b with
       | true => exact .inl rfl
       | false => exact .inr rfl
  rcases key' with h | h
  ·exact (Z4 h).trans hnext
  ·exact Z1 h
theorem Zj0 {m : List Au} (hm : m.length ≤ 1000) (t : Int) : ∀ (n k : Nat), m.length - k = n → Q1.l0 m t (k : Int) = some (((k + dayN (m.drop k) t : Nat)) : Int) := by
 intro n
 induction n with
 | zero =>
  intro k hk
  rw [List.drop_eq_nil_of_le (by omega)]
  refine Z1 ?_
  simp only [Q1.s0, Z3]
  rw [if_neg (by omega)]
  rfl
 | succ n ih =>
  intro k hk
  have hlt : k < m.length := by omega
  rw [List.drop_eq_getElem_cons hlt, Zbk]
  by_cases h : m[k].2.2 ≤ t
  ·rw [if_pos h]
   refine (Z4 (x' := ((k + 1 : Nat) : Int)) ?_).trans ((ih (k + 1) (by omega)).trans ?_)
   ·simp only [Q1.s0, Z3]
    rw [if_pos (by omega), Z0 ⟨by omega, by omega⟩, Z16 hlt, if_pos h, Zn (by omega) (by omega)]
    rfl
   ·congr 2; omega
  ·rw [if_neg h]
   refine Z1 ?_
   simp only [Q1.s0, Z3]
   rw [if_pos (by omega), Z0 ⟨by omega, by omega⟩, Z16 hlt, if_neg h]
   rfl
theorem law_TTV {ws : List Wr} (hs : ∀ w ∈ ws, szV w) {l : List Cl} (hr : ∀ c ∈ l, szC c) (m : List Au) (key : ByteArray) (t : Int) :
  Q1.f ws l m key t = some true := by
 obtain ⟨x, h1, h2⟩ := Zhs hs hr m key t
 have eb : ∀ s : ByteArray, decide (bs_ = bs_) = true := fun s => decide_eq_true rfl
 rcases h2 with h2 | ⟨x1, x2, hA, a0, hw, ⟨w1, w2, w3⟩, i, hi, _, hx, c1, c2, c3, c4⟩
 ·unfold Q1.f
  rw [h1, h2]
  simp only [ob_s, awake11, decide_true, cb_t, Bool.not_false]
  cases decide (x.2.2 = 0) <;> rfl
 ·have hll := hA.log.len
  have hdl := Zh0 m t
  have hA' := hA.cut (dayN m t)
  have haud := aud_cut hr a0 hA (dayN m t) hdl
  obtain ⟨n1, n2⟩ := Z75 l (m.take (dayN m t))
  have hT : (Z4f l (m.take (dayN m t))).length = l.length := Z2s _ _ _ _ _ _ _ n1 n2
  have hX : (nums 0 (Z4f l (m.take (dayN m t)))).length ≤ 1000000000 := Nat.le_trans (nums_len _ 0) (by omega)
  have hni : (i : Int) ∉ nums 0 (Z4f l (m.take (dayN m t))) := fun h => by
   obtain ⟨j, hj, h5⟩ := (mem_nums _ _ _).1 h
   obtain rfl : i = j := by omega
   rw [c3] at h5; cases h5
  have hg : ∀ c ∈ l, ∃ g, Q15.f ws c = some g ∧ Q1k.f ws c = some (g, 0) := fun c hc => by
   obtain ⟨g, a, b⟩ := genV w1 w2 w3 hw (hA.log.ok c hc).2 (hA.log.ok c hc).1
   exact ⟨g, a, b⟩
  have hloop := Zir hll key t hX hg hi c1 c2 hni c4 _ 0 rfl (Nat.zero_le _)
  have l2 : Q1.l0 m t 0 = some (((dayN m t : Nat)) : Int) := by
   have := Zj0 hA.len t _ 0 rfl
   rw [show ((0 : Nat) : Int) = 0 from rfl, List.drop_zero, Nat.zero_add] at this
   exact this
  rw [show ((0 : Nat) : Int) = 0 from rfl] at hloop
  have hck : (0 : Int) ≤ ((dayN m t : Nat) : Int) ∧ ((dayN m t : Nat) : Int) ≤ ((List.length m : Nat) : Int) := ⟨by omega, by omega⟩
  have hx1 : x.1 = l[i].2.2.1 := by rw [hx]
  unfold Q1.f
  simp only [h1, ob_s, x1, x2, decide_true, Bool.not_true, cb_f, l2, Z0 hck, Int.toNat_natCast, Zeo hA' haud, awake11, hx1, hloop]
  rfl
theorem Zik (x : List Wr × (List Cl × (List Au × (ByteArray × Int)))) (hx : InA T 6 [32,22,56,9,3] [.slice (.pair .str (.pair .str (.pair (.slice .str) (.pair (.int .i64) (.int .i64))))), .slice (.pair .str (.pair .str (.pair .str (.pair .str (.pair (.int .i64) (.pair (.slice .str) .str)))))), .slice (.pair (.int .i64) (.pair .str (.int .i64))), .str, .int .i64] x) : Q1.f x.1 x.2.1 x.2.2.1 x.2.2.2.1 x.2.2.2.2 = some true := by
 have hr : reachBytes ≤ BIG := by decide
 refine law_TTV (fun w hw => ?_) (fun c hc => ?_) _ _ _
 ·have h := hx.1.2 w hw
  have g1 : w.1.size ≤ reachBytes := h.1
  have g2 : w.2.1.size ≤ reachBytes := h.2.1
  have g3 := h.2.2.1.2
  exact ⟨Nat.le_trans g1 hr, Nat.le_trans g2 hr, fun y hy => Nat.le_trans (g3 y hy) hr⟩
 ·have h := hx.2.1.2 c hc
  have g : c.2.1.size ≤ reachBytes := h.2.1
  exact Nat.le_trans g hr
end Go.Proofs.YtahlodpolggeiaaGreatDoor
