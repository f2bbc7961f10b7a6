/-
  Plain laws over the printed functions: labels, words, writers, claimed results, digests, logs. No condition.
-/
import Derived.Test.YtahlodpolggeiaaGreatDoorZFun
import Derived.Sort.Walk0
import Derived.Laws.RangeAny
import Derived.Lib.IndexLaws
import Derived.Lib.ItoaLen
import Derived.Test.YtahlodpolggeiaaGreatDoorZUpA
import Derived.KernelRfl
noncomputable section
set_option linter.unusedVariables false
set_option linter.unusedSimpArgs false
namespace Go.Proofs.YtahlodpolggeiaaGreatDoor
open Go Go.Proofs.YtahlodpolggeiaaGreatDoor.Eng
def BIG : Nat := 140737488355328
theorem size_list (s : ByteArray) : s.size = s.data.toList.length := by rw [ByteArray.size]; simp
theorem bt_get {s : ByteArray} {k : Nat} (h : k < s.data.toList.length) : bt s (k : Int) = s.data.toList[k] := by
 have h' : k < s.size := by rw [size_list]; exact h
 unfold bt
 simp only [Int.toNat_natCast]
 rw [getElem?_pos s k h', Option.getD_some]
 rfl
theorem byteLoop {s : ByteArray} (hs : s.size ≤ BIG) (p : UInt8 → Bool) (f : Int → Option (Int ⊕ (Bool ⊕ Unit))) (hend : ∀ k : Nat, s.data.toList.length ≤ k → f k = some (.inr (.inr ())))
  (hno : ∀ k : Nat, ∀ h : k < s.data.toList.length, p s.data.toList[k] = false → f k = some (.inr (.inl false))) (hyes : ∀ k : Nat, ∀ h : k < s.data.toList.length, p s.data.toList[k] = true → f k = some (.inl ((k : Int) + 1))) :
  ∀ (n k : Nat), s.data.toList.length - k = n → loopX f (k : Int) = some (if (s.data.toList.drop k).all p then .inr () else .inl false) := by
 intro n
 induction n with
 | zero =>
  intro k hn
  rw [List.drop_eq_nil_of_le (by omega)]
  exact loopX_done (hend k (by omega))
 | succ n ih =>
  intro k hn
  have hlt : k < s.data.toList.length := by omega
  rw [List.drop_eq_getElem_cons hlt, List.all_cons]
  cases hp : p s.data.toList[k] with
  | false => exact loopX_done (hno k hlt hp)
  | true =>
   rw [Bool.true_and]
   exact (loopX_next (hyes k hlt hp)).trans (ih (k + 1) (by omega))
def partC (c : UInt8) : Bool := decide (97 ≤ c.toNat ∧ c.toNat ≤ 122) || decide (65 ≤ c.toNat ∧ c.toNat ≤ 90) || decide (48 ≤ c.toNat ∧ c.toNat ≤ 57) || decide (0 ≤ Lib.indexByte [46, 95, 45, 43] c)
theorem inPart_eq (c : UInt8) : Q2m.f c = some (partC c) := by
 have hi : Qm.f Q20 c = some (Lib.indexByte [46, 95, 45, 43] c) := rfl
 unfold Q2m.f partC
 simp only [cb_dec, hi, ob_s]
 by_cases h1 : (97 : Int) ≤ ((UInt8.toNat c : Nat) : Int) <;> by_cases h2 : ((UInt8.toNat c : Nat) : Int) ≤ 122 <;> by_cases h3 : (65 : Int) ≤ ((UInt8.toNat c : Nat) : Int) <;> by_cases h4 : ((UInt8.toNat c : Nat) : Int) ≤ 90 <;>
  by_cases h5 : (48 : Int) ≤ ((UInt8.toNat c : Nat) : Int) <;> by_cases h6 : ((UInt8.toNat c : Nat) : Int) ≤ 57 <;> simp only [h1, h2, h3, h4, h5, h6, if_true, if_false] <;> congr 1 <;>
  (have g1 : decide (97 ≤ c.toNat ∧ c.toNat ≤ 122) = decide ((97 : Int) ≤ ((UInt8.toNat c : Nat) : Int) ∧ ((UInt8.toNat c : Nat) : Int) ≤ 122) := decide_eq_decide.2 (by omega)
   have g2 : decide (65 ≤ c.toNat ∧ c.toNat ≤ 90) = decide ((65 : Int) ≤ ((UInt8.toNat c : Nat) : Int) ∧ ((UInt8.toNat c : Nat) : Int) ≤ 90) := decide_eq_decide.2 (by omega)
   have g3 : decide (48 ≤ c.toNat ∧ c.toNat ≤ 57) = decide ((48 : Int) ≤ ((UInt8.toNat c : Nat) : Int) ∧ ((UInt8.toNat c : Nat) : Int) ≤ 57) := decide_eq_decide.2 (by omega)
   rw [g1, g2, g3]; simp [h1, h2, h3, h4, h5, h6])
def isPartB (s : ByteArray) : Bool := s.data.toList.all partC && (!decide (s = bs_) && (!decide (s = Q33) && !decide (s = Q31)))
theorem isPart_eq {s : ByteArray} (hs : s.size ≤ BIG) : Q1c.f s = some (isPartB s) := by
 have hb : BIG = 140737488355328 := rfl
 have hl := size_list s
 have h := byteLoop hs partC (fun x => Q1c.s0 s (s.size : Int) x) (fun k hk => by
  simp only [Q1c.s0, cb_dec]; rw [if_neg (by omega)]) (fun k hk hp => by
  simp only [Q1c.s0, cb_dec, bt_get hk, inPart_eq, hp, ob_s]; rw [if_pos (by omega), ck_pos (by omega)]; rfl) (fun k hk hp => by
  simp only [Q1c.s0, cb_dec, bt_get hk, inPart_eq, hp, ob_s]; rw [if_pos (by omega), ck_pos (by omega), ck_in (by omega) (by omega)]; rfl) s.data.toList.length 0 (by omega)
 rw [List.drop_zero] at h
 unfold Q1c.f isPartB
 show ob (loopX (fun x => Q1c.s0 s (s.size : Int) x) ((0 : Nat) : Int)) _ = _
 rw [h]
 cases s.data.toList.all partC
 ·rfl
 ·simp only [if_true, ob_s, caseS_r, Bool.true_and, cb_not, cb_dec]
  by_cases e1 : s = bs_
  ·rw [if_pos e1, decide_eq_true e1]; rfl
  ·rw [if_neg e1, decide_eq_false e1]
   by_cases e2 : s = Q33
   ·rw [if_pos e2, decide_eq_true e2]; rfl
   ·rw [if_neg e2, decide_eq_false e2]; rfl
theorem indexByte_lt : ∀ (l : List UInt8) (c : UInt8), -1 ≤ Lib.indexByte l c ∧ Lib.indexByte l c < l.length
 | [], c => by simp [Lib.indexByte]
 | b :: l, c => by
  have h := indexByte_lt l c
  unfold Lib.indexByte
  split
  ·simp only [List.length_cons]; omega
  ·split
   ·simp only [List.length_cons]; omega
   ·rename_i h1
    have : ¬ Lib.indexByte l c = -1 := by simpa using h1
    simp only [List.length_cons]; omega
theorem index47 (s : ByteArray) : Q2c.f s Q2z = some (Lib.indexByte s.data.toList 47) := by
 show ob (ck _ _) _ = _
 rw [ck_pos (by rfl)]; rfl
theorem index58 (s : ByteArray) : Q1r.f s Q2x = some (Lib.indexByte s.data.toList 58) := by
 show ck _ _ = _
 rw [ck_pos (by rfl)]; rfl
theorem extract_size (s : ByteArray) (a b : Nat) : (s.extract a b).size = min b s.size - a := by simp [ByteArray.size_extract]
theorem splitLoop {n : Nat} (hn : n ≤ 1000000000000) : ∀ (m i : Nat) (s : ByteArray) (a : List ByteArray), n - i = m → i ≤ n → a.length = n + 1 → s.size ≤ BIG →
  ∃ (s' : ByteArray) (i' : Nat) (a' : List ByteArray), Qn.l0 Q2z 0 (n : Int) s (i : Int) a = some (s', (i' : Int), a') ∧ i' ≤ n ∧ a'.length = n + 1 ∧ (∀ x ∈ a', x.size ≤ s.size ∨ x ∈ a) ∧ s'.size ≤ s.size := by
 intro m
 have hb : BIG = 140737488355328 := rfl
 induction m with
 | zero =>
  intro i s a hm hi ha hs
  refine ⟨s, i, a, loopX_done ?_, hi, ha, fun x hx => .inr hx, Nat.le_refl _⟩
  simp only [Qn.s0, cb_dec]
  rw [if_neg (by omega)]
 | succ m ih =>
  intro i s a hm hi ha hs
  have hx := indexByte_lt s.data.toList 47
  have hl := size_list s
  by_cases hneg : Lib.indexByte s.data.toList 47 < 0
  ·refine ⟨s, i, a, loopX_done ?_, hi, ha, fun x hx => .inr hx, Nat.le_refl _⟩
   simp only [Qn.s0, cb_dec, index47, ob_s]
   rw [if_pos (by omega), if_pos hneg]
  ·have hz1 := extract_size s 0 (Int.toNat (Lib.indexByte s.data.toList 47 + 0))
   have hz2 := extract_size s (Int.toNat (Lib.indexByte s.data.toList 47 + ((Q2z.size : Nat) : Int))) s.size
   have h1 : Q2z.size = 1 := rfl
   obtain ⟨s', i', a', h2, h3, h4, h5, h6⟩ := ih (i + 1) (s.extract (Int.toNat (Lib.indexByte s.data.toList 47 + ((Q2z.size : Nat) : Int))) s.size) (a.set i (s.extract 0 (Int.toNat (Lib.indexByte s.data.toList 47 + 0)))) (by omega) (by omega) (by simpa using ha) (by rw [hz2]; omega)
   refine ⟨s', i', a', (loopX_next ?_).trans h2, h3, h4, fun x hx => ?_, by omega⟩
   ·simp only [Qn.s0, cb_dec, index47, ob_s]
    rw [if_pos (by omega), if_neg hneg, ck_in (by omega) (by omega), ck_pos (by omega), ck_pos (by omega), ck_pos (by rw [Int.toNat_natCast]; omega), ck_in (by rw [h1]; omega) (by rw [h1]; omega), ck_pos (by rw [h1]; omega), ck_in (by omega) (by omega)]
    rfl
   ·rcases h5 x hx with h | h
    ·left; omega
    ·rcases List.mem_or_eq_of_mem_set h with h | h
     ·exact .inr h
     ·left; rw [h, hz1]; omega
theorem countByte_le (l : List UInt8) (c : UInt8) : (Lib.countByte l c : Nat) ≤ l.length := List.count_le_length
theorem split_some {s : ByteArray} (hs : s.size ≤ 100000000000) : ∃ l, Q1s.f s Q2z = some l ∧ l.length ≤ 100000000002 ∧ ∀ x ∈ l, x.size ≤ s.size := by
 have hb : BIG = 140737488355328 := rfl
 have hl := size_list s
 have hc := countByte_le s.data.toList 47
 have hcnt : Q2v.f s Q2z = some ((Lib.countByte s.data.toList 47 : Nat) : Int) := by
  show ck _ _ = _
  rw [ck_pos (by rfl)]; rfl
 obtain ⟨s', i', a', h2, h3, h4, h5, h6⟩ := splitLoop (n := Lib.countByte s.data.toList 47) (by omega) _ 0 s (List.replicate (Lib.countByte s.data.toList 47 + 1) ByteArray.empty) rfl (Nat.zero_le _) (by simp) (by omega)
 unfold Q1s.f Qn.f
 have e1 : ¬ (Q2z = bs_) := by decide
 have hy : min (((Lib.countByte s.data.toList 47 : Nat) : Int) + 1) (((s.size : Nat) : Int) + 1) = ((Lib.countByte s.data.toList 47 + 1 : Nat) : Int) := by omega
 simp only [cb_dec, hcnt, ob_s, hy]
 rw [if_neg (by decide), if_neg e1, if_pos (by decide), ck_in (by omega) (by omega), ck_in (by omega) (by omega), ck_pos (by omega), ck_in (by omega) (by omega)]
 rw [show ((Lib.countByte s.data.toList 47 + 1 : Nat) : Int) - 1 = ((Lib.countByte s.data.toList 47 : Nat) : Int) by omega, Int.toNat_natCast]
 rw [show ((0 : Nat) : Int) = 0 from rfl] at h2
 rw [h2, ob_s]
 simp only
 rw [ck_pos (by omega), ck_pos (by rw [Int.toNat_natCast]; omega), ck_in (by omega) (by omega), ck_pos (by simp only [List.length_set]; omega), ob_s]
 refine ⟨_, rfl, by simp only [List.length_take, List.length_drop, List.length_set]; omega, fun x hx => ?_⟩
 have hx1 := List.mem_of_mem_drop (List.mem_of_mem_take hx)
 rcases List.mem_or_eq_of_mem_set hx1 with h | h
 ·rcases h5 x h with h | h
  ·exact h
  ·have := List.eq_of_mem_replicate h
   rw [this]; exact Nat.zero_le _
 ·rw [h]; exact h6
def splitL (s : ByteArray) : List ByteArray := (Q1s.f s Q2z).getD []
theorem split_eq {s : ByteArray} (hs : s.size ≤ 100000000000) : Q1s.f s Q2z = some (splitL s) ∧ (splitL s).length ≤ 100000000002 ∧ ∀ x ∈ splitL s, x.size ≤ s.size := by
 obtain ⟨l, h1, h2, h3⟩ := split_some hs
 have e : splitL s = l := by unfold splitL; rw [h1]; rfl
 rw [e]
 exact ⟨h1, h2, h3⟩
theorem listLoop {α : Type} {l : List α} (p : α → Bool) (f : Int → Option (Int ⊕ (Bool ⊕ Unit))) (hend : ∀ k : Nat, l.length ≤ k → f k = some (.inr (.inr ())))
  (hno : ∀ k : Nat, ∀ h : k < l.length, p l[k] = false → f k = some (.inr (.inl false))) (hyes : ∀ k : Nat, ∀ h : k < l.length, p l[k] = true → f k = some (.inl ((k : Int) + 1))) :
  ∀ (n k : Nat), l.length - k = n → loopX f (k : Int) = some (if (l.drop k).all p then .inr () else .inl false) := by
 intro n
 induction n with
 | zero =>
  intro k hn
  rw [List.drop_eq_nil_of_le (by omega)]
  exact loopX_done (hend k (by omega))
 | succ n ih =>
  intro k hn
  have hlt : k < l.length := by omega
  rw [List.drop_eq_getElem_cons hlt, List.all_cons]
  cases hp : p l[k] with
  | false => exact loopX_done (hno k hlt hp)
  | true =>
   rw [Bool.true_and]
   exact (loopX_next (hyes k hlt hp)).trans (ih (k + 1) (by omega))
def isPathB (s : ByteArray) : Bool := if 1 ≤ s.size ∧ s.size ≤ 200 then (splitL s).all isPartB else false
theorem isPath_eq (s : ByteArray) : Q13.f s = some (isPathB s) := by
 have hb : BIG = 140737488355328 := rfl
 unfold Q13.f isPathB
 simp only [cb_dec]
 by_cases h1 : ((s.size : Nat) : Int) < 1
 ·rw [if_pos h1, if_neg (by omega)]
 ·by_cases h2 : (200 : Int) < ((s.size : Nat) : Int)
  ·rw [if_neg h1, if_pos h2, if_neg (by omega)]
  ·obtain ⟨g1, g2, g3⟩ := split_eq (s := s) (by omega)
   have h := listLoop (l := splitL s) isPartB (fun x => Q13.s0 (splitL s) ((splitL s).length : Int) x) (fun k hk => by
    simp only [Q13.s0, cb_dec]; rw [if_neg (by omega)]) (fun k hk hp => by
    have hz := g3 _ (List.getElem_mem hk)
    simp only [Q13.s0, cb_dec, rd_lt hk, isPart_eq (s := (splitL s)[k]) (by omega), hp, ob_s]; rw [if_pos (by omega), ck_pos (by omega)]; rfl) (fun k hk hp => by
    have hz := g3 _ (List.getElem_mem hk)
    simp only [Q13.s0, cb_dec, rd_lt hk, isPart_eq (s := (splitL s)[k]) (by omega), hp, ob_s]; rw [if_pos (by omega), ck_pos (by omega), ck_in (by omega) (by omega)]; rfl) (splitL s).length 0 (by omega)
   rw [List.drop_zero] at h
   rw [if_neg h1, if_neg h2, if_pos (by omega), g1, ob_s]
   show ob (loopX (fun x => Q13.s0 (splitL s) ((splitL s).length : Int) x) ((0 : Nat) : Int)) _ = _
   rw [h]
   cases (splitL s).all isPartB <;> rfl
def hasP (s p : ByteArray) : Bool := decide (p.size ≤ s.size) && decide (s.extract 0 p.size = p)
theorem hasPrefix_eq (s p : ByteArray) : Ql.f s p = some (hasP s p) := by
 unfold Ql.f hasP
 simp only [cb_dec, Int.toNat_natCast]
 by_cases h : p.size ≤ s.size
 ·rw [if_pos (by omega), ck_pos (by omega), decide_eq_true h, Bool.true_and]
 ·rw [if_neg (by omega), decide_eq_false h, Bool.false_and]
def cutP (s p : ByteArray) : ByteArray × Bool := if hasP s p then (s.extract p.size s.size, true) else (s, false)
theorem cutPrefix_eq (s p : ByteArray) : Q1b.f s p = some (cutP s p) := by
 unfold Q1b.f Qy.f cutP
 simp only [hasPrefix_eq, ob_s, Int.toNat_natCast]
 cases h : hasP s p with
 | false => rfl
 | true =>
  have h' : p.size ≤ s.size := by
   unfold hasP at h
   rw [Bool.and_eq_true] at h
   exact of_decide_eq_true h.1
  simp only [Bool.not_true, cb_f]
  rw [ck_pos (by omega)]
  rfl
def cut58 (s : ByteArray) : ByteArray × (ByteArray × Bool) :=
 if 0 ≤ Lib.indexByte s.data.toList 58 then (s.extract 0 (Lib.indexByte s.data.toList 58).toNat, s.extract ((Lib.indexByte s.data.toList 58).toNat + 1) s.size, true) else (s, bs_, false)
theorem cut_eq {s : ByteArray} (hs : s.size ≤ BIG) : Q26.f s Q2x = some (cut58 s) := by
 have hb : BIG = 140737488355328 := rfl
 have hx := indexByte_lt s.data.toList 58
 have hl := size_list s
 have h1 : Q2x.size = 1 := rfl
 unfold Q26.f Q1f.f cut58
 simp only [index58, ob_s, cb_dec, h1]
 by_cases h : 0 ≤ Lib.indexByte s.data.toList 58
 ·rw [if_pos h, if_pos h, ck_pos (by omega), ck_in (by omega) (by omega), ck_pos (by omega), ob_s]
  rw [show (Lib.indexByte s.data.toList 58 + ((1 : Nat) : Int)).toNat = (Lib.indexByte s.data.toList 58).toNat + 1 by omega]
 ·rw [if_neg h, if_neg h]; rfl
theorem last_some {s : ByteArray} (hs : s.size ≤ BIG) : ∃ r, Q2b.f s = some r ∧ r.size ≤ s.size := by
 have hb : BIG = 140737488355328 := rfl
 have hl := size_list s
 have go : ∀ (m : Nat) (k : Int), (k + 1).toNat = m → -1 ≤ k → k < s.size → ∃ r, Q2.l0 s (UInt8.ofInt 47) k = some r ∧ ∀ i, r = .inl i → 0 ≤ i ∧ i < s.size := by
  intro m
  induction m with
  | zero =>
   intro k hm h1 h2
   refine ⟨.inr (), loopX_done ?_, fun i h => by cases h⟩
   simp only [Q2.s0, cb_dec]
   rw [if_neg (by omega)]
  | succ m ih =>
   intro k hm h1 h2
   by_cases he : ((UInt8.toNat (bt s k) : Nat) : Int) = ((UInt8.toNat (UInt8.ofInt 47) : Nat) : Int)
   ·refine ⟨.inl k, loopX_done ?_, fun i h => by cases h; omega⟩
    simp only [Q2.s0, cb_dec]
    rw [if_pos (by omega), ck_pos (by omega), if_pos he]
   ·obtain ⟨r, h3, h4⟩ := ih (k - 1) (by omega) (by omega) (by omega)
    refine ⟨r, (loopX_next ?_).trans h3, h4⟩
    simp only [Q2.s0, cb_dec]
    rw [if_pos (by omega), ck_pos (by omega), if_neg he, ck_in (by omega) (by omega)]
 obtain ⟨r, h1, h2⟩ := go _ (((s.size : Nat) : Int) - 1) rfl (by omega) (by omega)
 unfold Q2b.f Q1a.f Q2.f
 simp only [h1, ob_s]
 rw [ck_in (by omega) (by omega)]
 cases r with
 | inl i =>
  have := h2 i rfl
  simp only [caseS_l, ob_s]
  rw [ck_in (by omega) (by omega), ck_pos (by omega)]
  exact ⟨_, rfl, by rw [extract_size]; omega⟩
 | inr u =>
  simp only [caseS_r, ob_s]
  rw [ck_in (by omega) (by omega), ck_pos (by omega)]
  exact ⟨_, rfl, by rw [extract_size]; omega⟩
def labF (a : ByteArray × ByteArray) : Int := if (a.1 = bs_ ∨ isPathB a.1 = true) ∧ isPathB a.2 = true then 0 else 3
theorem checkLabel_eq (a : ByteArray × ByteArray) : Q14.f a = some (labF a) := by
 unfold Q14.f labF
 simp only [isPath_eq, ob_s, cb_not, cb_dec]
 by_cases e : a.1 = bs_
 ·simp only [e, if_true, true_or, true_and]
  cases isPathB a.2 <;> rfl
 ·simp only [e, if_false, false_or]
  cases isPathB a.1 <;> cases isPathB a.2 <;> rfl
end Go.Proofs.YtahlodpolggeiaaGreatDoor
set_option linter.unusedVariables false
set_option linter.unusedSimpArgs false
namespace Go.Proofs.YtahlodpolggeiaaGreatDoor
open Go Go.Proofs.YtahlodpolggeiaaGreatDoor.Eng
def cmpS (a b : ByteArray) : Int := Lib.compareBytes a.data.toList b.data.toList
theorem cmpL_eq0 : ∀ a b : List UInt8, (Lib.compareBytes a b = 0 ↔ a = b)
 | [], [] => by simp [Lib.compareBytes]
 | [], _ :: _ => by simp [Lib.compareBytes]
 | _ :: _, [] => by simp [Lib.compareBytes]
 | x :: a, y :: b => by
  have ih := cmpL_eq0 a b
  unfold Lib.compareBytes
  by_cases h1 : x < y
  ·have h3 : ¬ x = y := fun e => by subst e; exact absurd h1 (UInt8.lt_irrefl x)
   simp [h1, h3]
  ·by_cases h2 : y < x
   ·have h3 : ¬ x = y := fun e => by subst e; exact absurd h2 (UInt8.lt_irrefl x)
    simp [h1, h2, h3]
   ·have h3 : x = y := UInt8.le_antisymm (UInt8.not_lt.1 h2) (UInt8.not_lt.1 h1)
    subst h3
    simp only [h1, if_false, List.cons.injEq, true_and]
    exact ih
theorem cmpL_trans : ∀ a b c : List UInt8, Lib.compareBytes a b < 0 → Lib.compareBytes b c < 0 → Lib.compareBytes a c < 0
 | [], [], c, h, _ => by simp [Lib.compareBytes] at h
 | [], _ :: _, [], _, h => by simp [Lib.compareBytes] at h
 | [], _ :: _, _ :: _, _, _ => by simp [Lib.compareBytes]
 | _ :: _, [], c, h, _ => by simp [Lib.compareBytes] at h
 | _ :: _, _ :: _, [], _, h => by simp [Lib.compareBytes] at h
 | x :: a, y :: b, z :: c, h, h' => by
  have ih := cmpL_trans a b c
  unfold Lib.compareBytes at h h' ⊢
  by_cases h1 : x < y
  ·by_cases h2 : y < z
   ·simp [UInt8.lt_trans h1 h2]
   ·by_cases h3 : z < y
    ·simp [h2, h3] at h'
    ·have e : y = z := UInt8.le_antisymm (UInt8.not_lt.1 h3) (UInt8.not_lt.1 h2)
     subst e; simp [h1]
  ·by_cases h2 : y < x
   ·simp [h1, h2] at h
   ·have e : x = y := UInt8.le_antisymm (UInt8.not_lt.1 h2) (UInt8.not_lt.1 h1)
    subst e
    by_cases h3 : x < z
    ·simp [h3]
    ·by_cases h4 : z < x
     ·simp [h3, h4] at h'
     ·simp only [h1, if_false] at h
      simp only [h3, h4, if_false] at h' ⊢
      exact ih h h'
theorem cmpS_eq0 (a b : ByteArray) : cmpS a b = 0 ↔ a = b := by
 unfold cmpS
 rw [cmpL_eq0]
 exact ⟨fun h => ByteArray.ext (Array.toList_inj.1 h), fun h => by rw [h]⟩
theorem cmpS_trans {a b c : ByteArray} (h : cmpS a b < 0) (h' : cmpS b c < 0) : cmpS a c < 0 := cmpL_trans _ _ _ h h'
def Rising (l : List ByteArray) : Prop := ∀ i j : Nat, ∀ h : j < l.length, ∀ h' : i < j, cmpS (l[i]'(by omega)) l[j] < 0
theorem Rising.inj {l : List ByteArray} (h : Rising l) {i j : Nat} (hi : i < l.length) (hj : j < l.length) (e : l[i] = l[j]) : i = j := by
 rcases Nat.lt_trichotomy i j with h1 | h1 | h1
 ·have := h i j hj h1
  rw [e] at this
  have h0 := (cmpS_eq0 l[j] l[j]).2 rfl
  omega
 ·exact h1
 ·have := h j i hi h1
  rw [e] at this
  have h0 := (cmpS_eq0 l[j] l[j]).2 rfl
  omega
end Go.Proofs.YtahlodpolggeiaaGreatDoor
set_option linter.unusedVariables false
set_option linter.unusedSimpArgs false
namespace Go.Proofs.YtahlodpolggeiaaGreatDoor
open Go Go.Lib Go.Proofs.YtahlodpolggeiaaGreatDoor.Eng
def plainC (c : UInt8) : Bool := decide (33 ≤ c.toNat ∧ c.toNat ≤ 126)
def plainB (s : ByteArray) : Bool := s.data.toList.all plainC
theorem get_list {s : ByteArray} {k : Nat} (h : k < s.size) : s[k] = s.data.toList[k]'(by rw [← size_list]; exact h) := by
 rfl
theorem idx_plain (s : ByteArray) : ∀ (f pos : Nat), s.size - pos ≤ f → decide (0 ≤ idxFuncFrom notPlain true s f pos) = !(s.data.toList.drop pos).all plainC
 | 0, pos, h => by
  have hl := size_list s
  rw [List.drop_eq_nil_of_le (by omega)]
  rfl
 | f + 1, pos, h => by
  have hl := size_list s
  unfold idxFuncFrom
  by_cases hp : pos < s.size
  ·rw [if_pos hp]
   have hlt : pos < s.data.toList.length := by omega
   rw [List.drop_eq_getElem_cons hlt, List.all_cons]
   have hg := get_list hp
   by_cases ha : (s[pos]'hp).toNat < 128
   ·rw [decode_ascii s pos hp ha]
    simp only
    rw [hg]
    rw [hg] at ha
    by_cases hn : notPlain (s.data.toList[pos]).toNat = true
    ·rw [if_pos hn]
     have : plainC s.data.toList[pos] = false := by
      unfold plainC
      unfold notPlain at hn
      have := of_decide_eq_true hn
      exact decide_eq_false (by omega)
     rw [this, Bool.false_and, decide_eq_true (by omega)]; rfl
    ·rw [if_neg hn, idx_plain s f (pos + 1) (by omega)]
     have : plainC s.data.toList[pos] = true := by
      unfold plainC
      unfold notPlain at hn
      have : ¬ ((s.data.toList[pos]).toNat < 33 ∨ 126 < (s.data.toList[pos]).toNat) := fun h => hn (decide_eq_true h)
      exact decide_eq_true (by omega)
     rw [this, Bool.true_and]
   ·have hd := decode_high s pos hp (by omega)
    have hn : notPlain (Utf8.decode s pos).1 = true := decide_eq_true (by omega)
    rw [if_pos hn]
    have : plainC s.data.toList[pos] = false := by
     unfold plainC
     rw [← hg]
     exact decide_eq_false (by omega)
    rw [this, Bool.false_and, decide_eq_true (by omega)]; rfl
  ·rw [if_neg hp, List.drop_eq_nil_of_le (by omega)]
   rfl
theorem isPlain_eq (s : ByteArray) : Q21.f s = some (plainB s) := by
 unfold Q21.f Q28.f
 have h := idx_plain s s.size 0 (by omega)
 rw [List.drop_zero] at h
 have h' : decide (0 ≤ idxFunc notPlain true s) = !plainB s := h
 rw [ob_s, h', Bool.not_not]
def wordC (c : UInt8) : Bool := decide (97 ≤ c.toNat ∧ c.toNat ≤ 122) || decide (48 ≤ c.toNat ∧ c.toNat ≤ 57) || decide (c.toNat = 45) || decide (c.toNat = 95)
theorem dropWhile_nil {p : UInt8 → Bool} : ∀ {l : List UInt8}, l.dropWhile p = [] ↔ l.all p = true
 | [] => by simp
 | x :: l => by
  rw [List.dropWhile_cons, List.all_cons]
  cases h : p x with
  | true => simp only [if_true, Bool.true_and]; exact dropWhile_nil
  | false => simp
theorem dropWhile_all {p : UInt8 → Bool} : ∀ {l : List UInt8}, (l.dropWhile p).all p = l.all p
 | [] => rfl
 | x :: l => by
  rw [List.dropWhile_cons]
  cases h : p x with
  | true => simp only [if_true, List.all_cons, h, Bool.true_and]; exact dropWhile_all
  | false => simp only [Bool.false_eq_true, if_false]
theorem trim_nil (l cs : List UInt8) : trimS l cs = [] ↔ l.all (fun c => cs.contains c) = true := by
 have e1 : trimLeftS (trimRightS l cs) cs = ((l.reverse.dropWhile (cs.contains ·)).reverse).dropWhile (cs.contains ·) := rfl
 unfold trimS
 rw [e1, dropWhile_nil, List.all_reverse, dropWhile_all, List.all_reverse]
abbrev wordCs : ByteArray := Q17
theorem wordC_eq (c : UInt8) : wordCs.data.toList.contains c = wordC c := by
 have key : ∀ n : Fin 256, wordCs.data.toList.contains (UInt8.ofNat n.val) = wordC (UInt8.ofNat n.val) := by decide +kernel
 have h := key ⟨c.toNat, c.toNat_lt⟩
 simp only [UInt8.ofNat_toNat] at h
 exact h
def wordB (s : ByteArray) : Bool := if 1 ≤ s.size ∧ s.size ≤ 40 then (decide (97 ≤ (bt s 0).toNat ∧ (bt s 0).toNat ≤ 122) && s.data.toList.all wordC) else false
theorem isWord_eq (s : ByteArray) : Q1u.f s = some (wordB s) := by
 unfold Q1u.f wordB
 simp only [cb_dec]
 by_cases h1 : ((s.size : Nat) : Int) < 1
 ·rw [if_pos h1, if_neg (by omega)]
 ·by_cases h2 : (40 : Int) < ((s.size : Nat) : Int)
  ·rw [if_neg h1, if_pos h2, if_neg (by omega)]
  ·rw [if_neg h1, if_neg h2, ck_pos (by omega), ck_pos (by omega), if_pos (show 1 ≤ s.size ∧ s.size ≤ 40 by omega)]
   by_cases h3 : ((UInt8.toNat (bt s 0) : Nat) : Int) < 97
   ·rw [if_pos h3, decide_eq_false (by omega), Bool.false_and]
   ·by_cases h4 : (122 : Int) < ((UInt8.toNat (bt s 0) : Nat) : Int)
    ·rw [if_neg h3, if_pos h4, decide_eq_false (by omega), Bool.false_and]
    ·rw [if_neg h3, if_neg h4, decide_eq_true (by omega), Bool.true_and]
     unfold Q2g.f
     rw [ck_pos ⟨by omega, by decide, by decide +kernel⟩, ob_s]
     congr 1
     have h5 : (⟨(trimS s.data.toList wordCs.data.toList).toArray⟩ : ByteArray) = bs_ ↔ s.data.toList.all wordC = true := by
      have e : s.data.toList.all wordC = s.data.toList.all (fun c => wordCs.data.toList.contains c) := by
       congr 1; funext c; exact (wordC_eq c).symm
      rw [e, ← trim_nil]
      constructor
      ·intro h
       have := congrArg (fun b : ByteArray => b.data.toList) h
       have h7 : trimS s.data.toList wordCs.data.toList = bs_.data.toList := by simpa using this
       exact h7.trans rfl
      ·intro h
       rw [h]; rfl
     cases h6 : s.data.toList.all wordC with
     | true => exact decide_eq_true (h5.2 h6)
     | false => exact decide_eq_false (fun h => by rw [h5.1 h] at h6; cases h6)
theorem isWord_ref (s : ByteArray) : Q15.f s = some (wordB s) := by
 have hl := size_list s
 unfold Q15.f Q1m.f wordB
 simp only [cb_dec]
 by_cases h1 : (1 : Int) ≤ ((s.size : Nat) : Int)
 ·rw [if_pos h1, ob_s]
  by_cases h2 : ((s.size : Nat) : Int) ≤ 40
  ·rw [decide_eq_true h2, Bool.not_true, cb_f, ck_pos (by omega), ck_pos (by omega), if_pos (show 1 ≤ s.size ∧ s.size ≤ 40 by omega)]
   by_cases h3 : ((UInt8.toNat (bt s 0) : Nat) : Int) < 97
   ·rw [if_pos h3, decide_eq_false (by omega), Bool.false_and]
   ·by_cases h4 : (122 : Int) < ((UInt8.toNat (bt s 0) : Nat) : Int)
    ·rw [if_neg h3, if_pos h4, decide_eq_false (by omega), Bool.false_and]
    ·rw [if_neg h3, if_neg h4, decide_eq_true (by omega), Bool.true_and]
     have hb : BIG = 140737488355328 := rfl
     have h := byteLoop (s := s) (by omega) wordC (fun x => Q15.s0 s (s.size : Int) x) (fun k hk => by
      simp only [Q15.s0, cb_dec]; rw [if_neg (by omega)]) (fun k hk hp => by
      have c0 : 0 ≤ (k : Int) ∧ (k : Int) < ((s.size : Nat) : Int) := by omega
      have c1 : InR ((k : Int) + 1) := ⟨by omega, by omega⟩
      have hw : wordC s.data.toList[k] = false := hp
      simp only [Q15.s0, cb_dec, cb_not, bt_get hk, ck_pos c0, ck_pos c1, if_pos c0.2]
      unfold wordC at hw
      by_cases g1 : ((UInt8.toNat s.data.toList[k] : Nat) : Int) < 97 <;> by_cases g2 : (122 : Int) < ((UInt8.toNat s.data.toList[k] : Nat) : Int) <;> by_cases g3 : ((UInt8.toNat s.data.toList[k] : Nat) : Int) < 48 <;> by_cases g4 : (57 : Int) < ((UInt8.toNat s.data.toList[k] : Nat) : Int) <;>
       by_cases g5 : ((UInt8.toNat s.data.toList[k] : Nat) : Int) = 45 <;> by_cases g6 : ((UInt8.toNat s.data.toList[k] : Nat) : Int) = 95 <;> simp only [g1, g2, g3, g4, g5, g6, if_true, if_false] <;>
       first
       | rfl
       | (
        exfalso
        simp only [Bool.or_eq_true, Bool.or_eq_false_iff, decide_eq_true_eq, decide_eq_false_iff_not] at hw
        omega)) (fun k hk hp => by
      have c0 : 0 ≤ (k : Int) ∧ (k : Int) < ((s.size : Nat) : Int) := by omega
      have c1 : InR ((k : Int) + 1) := ⟨by omega, by omega⟩
      have hw : wordC s.data.toList[k] = true := hp
      simp only [Q15.s0, cb_dec, cb_not, bt_get hk, ck_pos c0, ck_pos c1, if_pos c0.2]
      unfold wordC at hw
      by_cases g1 : ((UInt8.toNat s.data.toList[k] : Nat) : Int) < 97 <;> by_cases g2 : (122 : Int) < ((UInt8.toNat s.data.toList[k] : Nat) : Int) <;> by_cases g3 : ((UInt8.toNat s.data.toList[k] : Nat) : Int) < 48 <;> by_cases g4 : (57 : Int) < ((UInt8.toNat s.data.toList[k] : Nat) : Int) <;>
       by_cases g5 : ((UInt8.toNat s.data.toList[k] : Nat) : Int) = 45 <;> by_cases g6 : ((UInt8.toNat s.data.toList[k] : Nat) : Int) = 95 <;> simp only [g1, g2, g3, g4, g5, g6, if_true, if_false] <;>
       first
       | rfl
       | (
        exfalso
        simp only [Bool.or_eq_true, Bool.or_eq_false_iff, decide_eq_true_eq, decide_eq_false_iff_not] at hw
        omega)) s.data.toList.length 0 (by omega)
     rw [List.drop_zero] at h
     show ob (loopX (fun x => Q15.s0 s (s.size : Int) x) ((0 : Nat) : Int)) _ = _
     rw [h]
     cases s.data.toList.all wordC <;> rfl
  ·rw [decide_eq_false h2, Bool.not_false, cb_t, if_neg (by omega)]
 ·rw [if_neg h1, ob_s, Bool.not_false, cb_t, if_neg (by omega)]
end Go.Proofs.YtahlodpolggeiaaGreatDoor
set_option linter.unusedVariables false
set_option linter.unusedSimpArgs false
namespace Go.Proofs.YtahlodpolggeiaaGreatDoor
open Go Go.Lib Go.Proofs.YtahlodpolggeiaaGreatDoor.Eng
theorem L_ext {s t : ByteArray} (h : s.data.toList = t.data.toList) : s = t := by
 apply ByteArray.ext
 exact Array.toList_inj.1 h
theorem L_app (s t : ByteArray) : (s ++ t).data.toList = s.data.toList ++ t.data.toList := by simp
theorem L_ex (s : ByteArray) (a b : Nat) : (s.extract a b).data.toList = (s.data.toList.take b).drop a := by simp [ByteArray.data_extract, List.drop_take]
theorem refPart_eq {s : ByteArray} (hs : s.size ≤ BIG) : Q1d.f s = some (isPartB s) := by
 have hb : BIG = 140737488355328 := rfl
 have hl := size_list s
 have hi : ∀ c, Qm.f Q20 c = some (Lib.indexByte [46, 95, 45, 43] c) := fun c => rfl
 have key : ∀ k : Nat, ∀ hk : k < s.data.toList.length, Q1d.s0 s (s.size : Int) (k : Int) = some (if partC s.data.toList[k] = true then .inl ((k : Int) + 1) else .inr (.inl false)) := fun k hk => by
  have c0 : 0 ≤ (k : Int) ∧ (k : Int) < ((s.size : Nat) : Int) := by omega
  have c1 : InR ((k : Int) + 1) := ⟨by omega, by omega⟩
  simp only [Q1d.s0, cb_dec, bt_get hk, hi, ob_s, ck_pos c0, ck_pos c1, if_pos c0.2]
  have e : partC s.data.toList[k] = (decide (97 ≤ (s.data.toList[k]).toNat ∧ (s.data.toList[k]).toNat ≤ 122) || decide (65 ≤ (s.data.toList[k]).toNat ∧ (s.data.toList[k]).toNat ≤ 90) || decide (48 ≤ (s.data.toList[k]).toNat ∧ (s.data.toList[k]).toNat ≤ 57) || decide (0 ≤ Lib.indexByte [46, 95, 45, 43] s.data.toList[k])) := rfl
  rw [e]
  by_cases g1 : ((UInt8.toNat s.data.toList[k] : Nat) : Int) < 97 <;> by_cases g2 : (122 : Int) < ((UInt8.toNat s.data.toList[k] : Nat) : Int) <;> by_cases g3 : ((UInt8.toNat s.data.toList[k] : Nat) : Int) < 65 <;> by_cases g4 : (90 : Int) < ((UInt8.toNat s.data.toList[k] : Nat) : Int) <;>
   by_cases g5 : ((UInt8.toNat s.data.toList[k] : Nat) : Int) < 48 <;> by_cases g6 : (57 : Int) < ((UInt8.toNat s.data.toList[k] : Nat) : Int) <;> by_cases g7 : Lib.indexByte [46, 95, 45, 43] s.data.toList[k] < 0 <;>
   first
   | (exfalso; omega)
   | (
    simp only [g1, g2, g3, g4, g5, g6, g7, if_true, if_false]
    first
    | (
     rw [if_pos]
     simp only [Bool.or_eq_true, decide_eq_true_eq]
     omega)
    | (
     rw [if_neg]
     simp only [Bool.or_eq_true, decide_eq_true_eq]
     omega))
 have h := byteLoop hs partC (fun x => Q1d.s0 s (s.size : Int) x) (fun k hk => by
  simp only [Q1d.s0, cb_dec]; rw [if_neg (by omega)]) (fun k hk hp => by
  rw [key k hk, hp]; rfl) (fun k hk hp => by
  rw [key k hk, hp]; rfl) s.data.toList.length 0 (by omega)
 rw [List.drop_zero] at h
 unfold Q1d.f isPartB
 show ob (loopX (fun x => Q1d.s0 s (s.size : Int) x) ((0 : Nat) : Int)) _ = _
 rw [h]
 cases s.data.toList.all partC
 ·rfl
 ·simp only [if_true, ob_s, caseS_r, Bool.true_and, cb_not, cb_dec]
  by_cases h1 : s = bs_ <;> by_cases h2 : s = Q33 <;> by_cases h3 : s = Q31 <;> simp [h1, h2, h3]
theorem refPath_eq {s : ByteArray} (hs : s.size ≤ 100000000000) : Q16.f s = some (isPathB s) := by
 have hb : BIG = 140737488355328 := rfl
 obtain ⟨g1, g2, g3⟩ := split_eq (s := s) hs
 have h := listLoop (l := splitL s) isPartB (fun x => Q16.s0 (splitL s) ((splitL s).length : Int) x) (fun k hk => by
  simp only [Q16.s0, cb_dec]; rw [if_neg (by omega)]) (fun k hk hp => by
  have hz := g3 _ (List.getElem_mem hk)
  simp only [Q16.s0, cb_dec, rd_lt hk, refPart_eq (s := (splitL s)[k]) (by omega), hp, ob_s]; rw [if_pos (by omega), ck_pos (by omega)]; rfl) (fun k hk hp => by
  have hz := g3 _ (List.getElem_mem hk)
  simp only [Q16.s0, cb_dec, rd_lt hk, refPart_eq (s := (splitL s)[k]) (by omega), hp, ob_s]; rw [if_pos (by omega), ck_pos (by omega), ck_in (by omega) (by omega)]; rfl) (splitL s).length 0 (by omega)
 rw [List.drop_zero] at h
 unfold Q16.f isPathB
 rw [g1, ob_s]
 show ob (loopX (fun x => Q16.s0 (splitL s) ((splitL s).length : Int) x) ((0 : Nat) : Int)) _ = _
 rw [h]
 unfold Q2p.f
 cases (splitL s).all isPartB with
 | true =>
  simp only [if_true, ob_s, caseS_r, cb_dec]
  by_cases h1 : (1 : Int) ≤ ((s.size : Nat) : Int)
  ·rw [if_pos h1, ob_s]
   by_cases h2 : ((s.size : Nat) : Int) ≤ 200
   ·rw [decide_eq_true h2, if_pos (by omega)]
   ·rw [decide_eq_false h2, if_neg (by omega)]
  ·rw [if_neg h1, ob_s, if_neg (by omega)]
 | false =>
  simp only [Bool.false_eq_true, if_false, ob_s, caseS_l]
  split <;> rfl
theorem refCheck_eq {a : ByteArray × ByteArray} (h1 : a.1.size ≤ 100000000000) (h2 : a.2.size ≤ 100000000000) : Q1j.f a = some (labF a) := by
 unfold Q1j.f Q2f.f labF
 simp only [refPath_eq h1, refPath_eq h2, ob_s, cb_not, cb_dec]
 by_cases e : a.1 = bs_
 ·simp only [e, if_true, true_or, true_and, ob_s, cb_t]
  cases isPathB a.2 <;> rfl
 ·simp only [e, if_false, false_or, ob_s]
  cases isPathB a.1 <;> cases isPathB a.2 <;> rfl
end Go.Proofs.YtahlodpolggeiaaGreatDoor
set_option linter.unusedVariables false
set_option linter.unusedSimpArgs false
namespace Go.Proofs.YtahlodpolggeiaaGreatDoor
open Go Go.Lib Go.Proofs.YtahlodpolggeiaaGreatDoor.Eng
theorem L_47 : Q1i.data.toList = [47, 47] := rfl
theorem L_58 : Q2x.data.toList = [58] := rfl
theorem hasP_iff {s p : ByteArray} : hasP s p = true ↔ ∃ t, s.data.toList = p.data.toList ++ t := by
 have hl := size_list s
 have hp := size_list p
 unfold hasP
 rw [Bool.and_eq_true, decide_eq_true_eq, decide_eq_true_eq]
 constructor
 ·rintro ⟨h1, h2⟩
  have h3 := congrArg (fun b : ByteArray => b.data.toList) h2
  simp only [L_ex, List.drop_zero] at h3
  exact ⟨s.data.toList.drop p.size, by rw [← h3, List.take_append_drop]⟩
 ·rintro ⟨t, ht⟩
  have hlen := congrArg List.length ht
  rw [List.length_append] at hlen
  refine ⟨by omega, L_ext ?_⟩
  rw [L_ex, List.drop_zero, ht, List.take_append_of_le_length (by omega), List.take_of_length_le (by omega)]
theorem cutP_yes {s p : ByteArray} {t : List UInt8} (h : s.data.toList = p.data.toList ++ t) : (cutP s p).2 = true ∧ (cutP s p).1.data.toList = t := by
 have hl := size_list s
 have hp := size_list p
 have hlen := congrArg List.length h
 rw [List.length_append] at hlen
 unfold cutP
 rw [if_pos (hasP_iff.2 ⟨t, h⟩)]
 refine ⟨rfl, ?_⟩
 show (s.extract p.size s.size).data.toList = t
 rw [L_ex, List.take_of_length_le (by omega), h, List.drop_append_of_le_length (by omega), List.drop_of_length_le (by omega), List.nil_append]
theorem cutP_no {s p : ByteArray} (h : ¬ ∃ t, s.data.toList = p.data.toList ++ t) : cutP s p = (s, false) := by
 unfold cutP
 rw [if_neg (fun h' => h (hasP_iff.1 h'))]
theorem colon (l : List UInt8) : (Lib.indexByte l 58 = -1 ∧ 58 ∉ l) ∨ ∃ a b, l = a ++ 58 :: b ∧ 58 ∉ a ∧ Lib.indexByte l 58 = (a.length : Int) := by
 have h1 := indexByte_lt l 58
 by_cases h : Lib.indexByte l 58 = -1
 ·refine .inl ⟨h, fun hm => ?_⟩
  obtain ⟨k, hk, he⟩ := List.getElem_of_mem hm
  exact indexByte_none h k (by rw [List.getElem?_eq_getElem hk, he])
 ·right
  obtain ⟨o, ho⟩ : ∃ o : Nat, Lib.indexByte l 58 = o := ⟨(Lib.indexByte l 58).toNat, by omega⟩
  obtain ⟨h2, h3⟩ := indexByte_some ho
  have hol : o < l.length := by omega
  refine ⟨l.take o, l.drop (o + 1), ?_, fun hm => ?_, ?_⟩
  ·have : l[o] = 58 := by rw [List.getElem?_eq_getElem hol] at h2; exact Option.some.inj h2
   rw [← this, ← List.drop_eq_getElem_cons hol, List.take_append_drop]
  ·obtain ⟨k, hk, he⟩ := List.getElem_of_mem hm
   have hko : k < o := by have := hk; simp at this; omega
   rw [List.getElem_take] at he
   exact h3 k hko (by rw [List.getElem?_eq_getElem (by omega), he])
  ·rw [ho, List.length_take]; omega
theorem index_of {a b : List UInt8} (h : 58 ∉ a) : Lib.indexByte (a ++ 58 :: b) 58 = (a.length : Int) := by
 rcases colon (a ++ 58 :: b) with ⟨_, h2⟩ | ⟨a', b', h2, h3, h4⟩
 ·exact absurd (by simp) h2
 ·have : a.length = a'.length := by
   have key : ∀ (a a' b b' : List UInt8), 58 ∉ a → 58 ∉ a' → a ++ 58 :: b = a' ++ 58 :: b' → a.length = a'.length := by
    intro a
    induction a with
    | nil =>
     intro a' b b' _ h2 h3
     cases a' with
     | nil => rfl
     | cons x a' =>
      injection h3 with e _
      exact absurd (e ▸ List.mem_cons_self ..) h2
    | cons x a ih =>
     intro a' b b' h1 h2 h3
     cases a' with
     | nil =>
      injection h3 with e _
      exact absurd (e ▸ List.mem_cons_self ..) h1
     | cons y a' =>
      injection h3 with _ e
      have := ih a' b b' (fun h => h1 (List.mem_cons_of_mem _ h)) (fun h => h2 (List.mem_cons_of_mem _ h)) e
      simp [this]
   exact key a a' b b' h h3 h2
  rw [h4, this]
theorem cut_yes {s : ByteArray} {a b : List UInt8} (hs : s.data.toList = a ++ 58 :: b) (h : 58 ∉ a) : (cut58 s).1.data.toList = a ∧ (cut58 s).2.1.data.toList = b ∧ (cut58 s).2.2 = true := by
 have hl := size_list s
 have hi : Lib.indexByte s.data.toList 58 = (a.length : Int) := by rw [hs]; exact index_of h
 have hlen := congrArg List.length hs
 rw [List.length_append, List.length_cons] at hlen
 unfold cut58
 rw [if_pos (by omega), hi, Int.toNat_natCast]
 refine ⟨?_, ?_, rfl⟩
 ·rw [L_ex, List.drop_zero, hs, List.take_append_of_le_length (Nat.le_refl _), List.take_of_length_le (Nat.le_refl _)]
 ·show (s.extract (a.length + 1) s.size).data.toList = b
  rw [L_ex, List.take_of_length_le (by omega), hs]
  have : a ++ 58 :: b = (a ++ [58]) ++ b := by simp
  rw [this, List.drop_append_of_le_length (by simp), List.drop_of_length_le (by simp), List.nil_append]
theorem cut_no {s : ByteArray} (h : 58 ∉ s.data.toList) : cut58 s = (s, bs_, false) := by
 rcases colon s.data.toList with ⟨h1, _⟩ | ⟨a, b, h1, _⟩
 ·unfold cut58
  rw [h1, if_neg (by decide)]
 ·exact absurd (by rw [h1]; simp) h
def IsLab (s : ByteArray) : Prop := ∃ x y : ByteArray, s.data.toList = [47, 47] ++ (x.data.toList ++ 58 :: y.data.toList) ∧ 58 ∉ x.data.toList ∧ labF (x, y) = 0
theorem whole_iff {s : ByteArray} (hs : s.size ≤ BIG) : ∃ b, Q1n.f s = some b ∧ (b = true ↔ IsLab s) := by
 have hb : BIG = 140737488355328 := rfl
 have hl := size_list s
 have hw : ∀ a : ByteArray × ByteArray, a.1.size ≤ s.size → a.2.size ≤ s.size → Q2a.f a = some (((Q1i ++ a.1) ++ Q2x) ++ a.2) := fun a h1 h2 => by
  unfold Q2a.f
  have e1 : Q1i.size = 2 := rfl
  have e2 : Q2x.size = 1 := rfl
  simp only [ByteArray.size_append, e1, e2]
  rw [ck_pos (by omega), ck_pos (by omega), ck_pos (by omega)]
 have hLw : ∀ a b : ByteArray, (((Q1i ++ a) ++ Q2x) ++ b).data.toList = [47, 47] ++ (a.data.toList ++ 58 :: b.data.toList) := fun a b => by
  rw [L_app, L_app, L_app, L_47, L_58]; simp
 unfold Q1n.f Q22.f
 simp only [decide_true, Bool.not_true, cb_f, cutPrefix_eq, ob_s]
 by_cases hp : ∃ t, s.data.toList = Q1i.data.toList ++ t
 ·obtain ⟨t, ht⟩ := hp
  obtain ⟨c1, c2⟩ := cutP_yes ht
  have hsz : (cutP s Q1i).1.size ≤ s.size := by
   rw [size_list, c2]
   have := congrArg List.length ht
   rw [List.length_append] at this
   omega
  rw [L_47] at ht
  simp only [c1, cb_t, cut_eq (s := (cutP s Q1i).1) (by omega), ob_s]
  rcases colon (cutP s Q1i).1.data.toList with ⟨_, hno⟩ | ⟨a, b, h1, h2, _⟩
  ·rw [cut_no hno]
   obtain ⟨r, r1, r2⟩ := last_some (s := (cutP s Q1i).1) (by omega)
   simp only [Bool.not_false, cb_t, r1, ob_s, checkLabel_eq, cb_not, cb_dec]
   refine ⟨false, ?_, fun h => (by cases h), fun ⟨x, y, h3, _, _⟩ => ?_⟩
   ·by_cases h0 : labF ((cutP s Q1i).1, r) = 0
    ·rw [if_pos h0]
     simp only [ob_s, if_true]
     rw [hw _ hsz (by show r.size ≤ _; omega), ob_s]
     refine congrArg some (decide_eq_false fun e => ?_)
     have e2 := congrArg (fun b : ByteArray => b.data.toList) e
     simp only [hLw] at e2
     rw [ht, c2] at e2
     have := congrArg List.length e2
     simp at this
    ·rw [if_neg h0]
     simp only [ob_s]
     rw [if_neg (by decide)]
   ·rw [ht, List.append_cancel_left_eq] at h3
    rw [c2, h3] at hno
    exact (hno (by simp)).elim
  ·obtain ⟨e1, e2, e3⟩ := cut_yes h1 h2
   have hs1 : (cut58 (cutP s Q1i).1).1.size ≤ s.size ∧ (cut58 (cutP s Q1i).1).2.1.size ≤ s.size := by
    have := congrArg List.length h1
    rw [List.length_append, List.length_cons] at this
    have e4 := size_list (cutP s Q1i).1
    rw [size_list, size_list (cut58 (cutP s Q1i).1).2.1, e1, e2]
    omega
   simp only [e3, Bool.not_true, cb_f, checkLabel_eq, ob_s, cb_not, cb_dec]
   by_cases h0 : labF ((cut58 (cutP s Q1i).1).1, (cut58 (cutP s Q1i).1).2.1) = 0
   ·rw [if_pos h0]
    simp only [ob_s, if_true]
    rw [hw _ hs1.1 hs1.2, ob_s]
    refine ⟨true, congrArg some (decide_eq_true (L_ext ?_)), fun _ => ⟨_, _, ?_, ?_, h0⟩, fun _ => rfl⟩
    ·rw [hLw, e1, e2, ← h1, c2, ht]
    ·rw [e1, e2, ← h1, c2, ht]
    ·rw [e1]; exact h2
   ·rw [if_neg h0]
    simp only [ob_s]
    rw [if_neg (by decide)]
    refine ⟨false, rfl, fun h => (by cases h), fun ⟨x, y, h3, h4, h5⟩ => ?_⟩
    rw [ht, List.append_cancel_left_eq, ← c2] at h3
    obtain ⟨f1, f2, _⟩ := cut_yes h3 h4
    rw [L_ext f1, L_ext f2] at h0
    exact absurd h5 h0
 ·have hnl : ¬ IsLab s := fun ⟨x, y, h3, _, _⟩ => hp ⟨_, h3⟩
  rw [cutP_no hp]
  simp only [cb_f]
  have fin : ∀ a : ByteArray × ByteArray, a.1.size ≤ s.size → a.2.size ≤ s.size → (ob (ob (Q14.f a) fun r16 => (cb (!decide (r16 = (0 : Int))) (some ((bs_, bs_), (10 : Int))) (some (a, (0 : Int))))) fun r1 => (cb (decide (r1.2 = (0 : Int))) (ob (Q2a.f r1.1) fun r2 => (some (decide (r2 = s)))) (some false))) = some false := fun a h1 h2 => by
   rw [checkLabel_eq, ob_s, cb_not, cb_dec]
   by_cases h0 : labF a = 0
   ·rw [if_pos h0]
    simp only [ob_s, cb_dec, if_true]
    rw [hw a h1 h2, ob_s]
    refine congrArg some (decide_eq_false fun e => ?_)
    have e2 := congrArg (fun b : ByteArray => b.data.toList) e
    simp only [hLw] at e2
    exact hp ⟨_, e2.symm⟩
   ·rw [if_neg h0]
    simp only [ob_s, cb_dec]
    rw [if_neg (by decide)]
  refine ⟨false, ?_, fun h => (by cases h), fun h => absurd h hnl⟩
  by_cases hq : ∃ t, s.data.toList = Q2x.data.toList ++ t
  ·obtain ⟨t, ht⟩ := hq
   obtain ⟨c1, c2⟩ := cutP_yes ht
   rw [c1, cb_t]
   refine fin (bs_, (cutP s Q2x).1) (Nat.zero_le _) ?_
   show (cutP s Q2x).1.size ≤ _
   rw [size_list, c2]
   have := congrArg List.length ht
   rw [List.length_append] at this
   omega
  ·rw [cutP_no hq, cb_f]
   exact fin (bs_, bs_) (Nat.zero_le _) (Nat.zero_le _)
theorem label_iff {s : ByteArray} (hs : s.size ≤ 100000000000) : ∃ b, Q25.f s = some b ∧ (b = true ↔ IsLab s) := by
 have hb : BIG = 140737488355328 := rfl
 have hl := size_list s
 have hLw : ∀ a b : ByteArray, (((Q1i ++ a) ++ Q2x) ++ b).data.toList = [47, 47] ++ (a.data.toList ++ 58 :: b.data.toList) := fun a b => by
  rw [L_app, L_app, L_app, L_47, L_58]; simp
 have e1 : Q1i.size = 2 := rfl
 have e2 : Q2x.size = 1 := rfl
 have hpkg : Q2f.f bs_ = some true := rfl
 have lastE : ∀ x : ByteArray, Q2q.f x = Q2b.f x := fun x => rfl
 have fin : ∀ a : ByteArray × ByteArray, a.1.size ≤ s.size → a.2.size ≤ s.size → (ob (ob (Q1j.f a) fun r4 => (cb (!decide (r4 = (0 : Int))) (some ((bs_, bs_), (10 : Int))) (some (a, (0 : Int))))) fun r1 => (cb (decide (r1.2 = (0 : Int))) (ck (((ByteArray.size Q1i + ByteArray.size r1.1.1 : Nat) : Int) ≤ 9223372036854775807) (ck (((ByteArray.size (Q1i ++ r1.1.1) + ByteArray.size Q2x : Nat) : Int) ≤ 9223372036854775807) (let y2 : ByteArray := ((Q1i ++ r1.1.1) ++ Q2x); (ck (((ByteArray.size y2 + ByteArray.size r1.1.2 : Nat) : Int) ≤ 9223372036854775807) (some (decide (s = (y2 ++ r1.1.2)))))))) (some false))) = some (decide (labF a = 0) && decide (s = ((Q1i ++ a.1) ++ Q2x) ++ a.2)) := fun a h1 h2 => by
  rw [refCheck_eq (by omega) (by omega), ob_s, cb_not, cb_dec]
  by_cases h0 : labF a = 0
  ·rw [if_pos h0, decide_eq_true h0, Bool.true_and]
   simp only [ob_s, cb_dec, if_true, ByteArray.size_append, e1, e2]
   rw [ck_pos (by omega), ck_pos (by omega), ck_pos (by omega)]
  ·rw [if_neg h0, decide_eq_false h0, Bool.false_and]
   simp only [ob_s, cb_dec]
   rw [if_neg (by decide)]
 have err : (ob (some ((bs_, bs_), (10 : Int))) fun r1 => (cb (decide (r1.2 = (0 : Int))) (ck (((ByteArray.size Q1i + ByteArray.size r1.1.1 : Nat) : Int) ≤ 9223372036854775807) (ck (((ByteArray.size (Q1i ++ r1.1.1) + ByteArray.size Q2x : Nat) : Int) ≤ 9223372036854775807) (let y2 : ByteArray := ((Q1i ++ r1.1.1) ++ Q2x); (ck (((ByteArray.size y2 + ByteArray.size r1.1.2 : Nat) : Int) ≤ 9223372036854775807) (some (decide (s = (y2 ++ r1.1.2)))))))) (some false))) = some false := by
  simp only [ob_s, cb_dec]
  rw [if_neg (by decide)]
 unfold Q25.f Q29.f
 simp only [hpkg, ob_s, Bool.not_true, cb_f, cut_eq (s := s) (by omega), cutPrefix_eq]
 rcases colon s.data.toList with ⟨_, hno⟩ | ⟨a, b, h1, h2, _⟩
 ·
  have hnl : ¬ IsLab s := fun ⟨x, y, h3, _, _⟩ => hno (by rw [h3]; simp)
  rw [cut_no hno]
  simp only [cb_f]
  refine ⟨false, ?_, fun h => (by cases h), fun h => absurd h hnl⟩
  by_cases hp : ∃ t, s.data.toList = Q1i.data.toList ++ t
  ·obtain ⟨t, ht⟩ := hp
   obtain ⟨c1, c2⟩ := cutP_yes ht
   have hsz : (cutP s Q1i).1.size ≤ s.size := by
    rw [size_list, c2]
    have := congrArg List.length ht
    rw [List.length_append] at this
    omega
   obtain ⟨r, r1, r2⟩ := last_some (s := (cutP s Q1i).1) (by omega)
   simp only [c1, cb_t, cb_not, cb_dec, lastE, r1, ob_s]
   by_cases h0 : (cutP s Q1i).1 = bs_
   ·rw [if_pos h0]; exact err
   ·rw [if_neg h0]
    have := fin ((cutP s Q1i).1, r) hsz (by show r.size ≤ _; omega)
    simp only [cb_not, cb_dec] at this
    rw [this]
    refine congrArg some ?_
    rw [Bool.and_eq_false_iff]
    right
    refine decide_eq_false fun e => ?_
    have e2 := congrArg (fun b : ByteArray => b.data.toList) e
    simp only [hLw] at e2
    exact hno (by rw [e2]; simp)
  ·rw [cutP_no hp]
   simp only [cb_f]
   exact err
 ·obtain ⟨f1, f2, f3⟩ := cut_yes h1 h2
  have hla : (cut58 s).1.size ≤ s.size ∧ (cut58 s).2.1.size ≤ s.size := by
   have := congrArg List.length h1
   rw [List.length_append, List.length_cons] at this
   rw [size_list (cut58 s).1, size_list (cut58 s).2.1, f1, f2]
   omega
  rw [f3]
  simp only [cb_t, cb_dec]
  by_cases h0 : (cut58 s).1 = bs_
  ·rw [if_pos h0]
   have ha : a = [] := by rw [← f1, h0]; rfl
   subst ha
   have hnl : ¬ IsLab s := fun ⟨x, y, h3, _, _⟩ => by
    rw [h1] at h3
    injection h3 with e _
    cases e
   have := fin (bs_, (cut58 s).2.1) (Nat.zero_le _) hla.2
   simp only [cb_not, cb_dec] at this ⊢
   rw [this]
   refine ⟨_, rfl, fun h => ?_, fun h => absurd h hnl⟩
   rw [Bool.and_eq_true, decide_eq_true_eq, decide_eq_true_eq] at h
   have e2 := congrArg (fun b : ByteArray => b.data.toList) h.2
   simp only [hLw] at e2
   rw [h1] at e2
   injection e2 with e _
   cases e
  ·rw [if_neg h0]
   by_cases hp : ∃ t, (cut58 s).1.data.toList = Q1i.data.toList ++ t
   ·obtain ⟨t, ht⟩ := hp
    obtain ⟨c1, c2⟩ := cutP_yes ht
    have hsz : (cutP (cut58 s).1 Q1i).1.size ≤ s.size := by
     rw [size_list, c2]
     have := congrArg List.length ht
     rw [List.length_append, ← size_list] at this
     omega
    simp only [c1, cb_t]
    have := fin ((cutP (cut58 s).1 Q1i).1, (cut58 s).2.1) hsz hla.2
    simp only [cb_not, cb_dec] at this ⊢
    rw [this]
    rw [f1, L_47] at ht
    have hsl : s.data.toList = [47, 47] ++ (t ++ 58 :: b) := by rw [h1, ht]; simp
    refine ⟨_, rfl, fun h => ?_, fun ⟨x, y, h3, h4, h5⟩ => ?_⟩
    ·rw [Bool.and_eq_true, decide_eq_true_eq, decide_eq_true_eq] at h
     refine ⟨_, _, ?_, ?_, h.1⟩
     ·rw [c2, f2]; exact hsl
     ·rw [c2]; exact fun hm => h2 (by rw [ht]; exact List.mem_append_right _ hm)
    ·rw [hsl, List.append_cancel_left_eq] at h3
     have ht58 : 58 ∉ t := fun hm => h2 (by rw [ht]; exact List.mem_append_right _ hm)
     have hlen : (t.length : Int) = (x.data.toList.length : Int) := by
      rw [← index_of (b := b) ht58, h3, index_of h4]
     obtain ⟨g1, g2⟩ := List.append_inj h3 (by omega)
     injection g2 with _ g2
     have ex : (cutP (cut58 s).1 Q1i).1 = x := L_ext (by rw [c2, g1])
     have ey : (cut58 s).2.1 = y := L_ext (by rw [f2, g2])
     rw [ex, ey, decide_eq_true h5, Bool.true_and]
     refine decide_eq_true (L_ext ?_)
     rw [hLw, hsl, g1, g2]
   ·rw [cutP_no hp]
    simp only [cb_f]
    refine ⟨false, err, fun h => (by cases h), fun ⟨x, y, h3, h4, _⟩ => absurd ⟨x.data.toList, ?_⟩ hp⟩
    rw [f1, L_47]
    have h5 : a ++ 58 :: b = ([47, 47] ++ x.data.toList) ++ 58 :: y.data.toList := by rw [← h1, h3]; simp
    have h58 : (58 : UInt8) ∉ [47, 47] ++ x.data.toList := fun hm => by
     rcases List.mem_append.1 hm with h | h
     ·revert h; decide
     ·exact h4 h
    have hlen : (a.length : Int) = (([47, 47] ++ x.data.toList).length : Int) := by
     rw [← index_of (b := b) h2, h5, index_of h58]
    exact (List.append_inj h5 (by omega)).1
theorem label_eq {s : ByteArray} (hs : s.size ≤ 100000000000) : Q25.f s = Q1n.f s ∧ ∃ b, Q1n.f s = some b := by
 have hb : BIG = 140737488355328 := rfl
 obtain ⟨b1, h1, h2⟩ := whole_iff (s := s) (by omega)
 obtain ⟨b2, h3, h4⟩ := label_iff hs
 have : b1 = b2 := by rw [Bool.eq_iff_iff, h2, h4]
 rw [h1, h3, this]
 exact ⟨rfl, _, rfl⟩
end Go.Proofs.YtahlodpolggeiaaGreatDoor
set_option linter.unusedVariables false
set_option linter.unusedSimpArgs false
namespace Go.Proofs.YtahlodpolggeiaaGreatDoor
open Go Go.Lib Go.Proofs.YtahlodpolggeiaaGreatDoor.Eng
abbrev Wr := ByteArray × (ByteArray × ((List ByteArray) × (Int × Int)))
theorem ck_neg {β : Type} {c : Prop} {a : Option β} (h : ¬ c) : ck c a = none := by unfold ck; rw [if_neg h]
theorem prefix_eq (s p : ByteArray) : Q1l.f s p = some (hasP s p) := by
 unfold Q1l.f
 rw [hasPrefix_eq]; rfl
def szW (w : Wr) : Prop := w.1.size ≤ 100000000000 ∧ w.2.1.size ≤ 100000000000 ∧ ∀ y ∈ w.2.2.1, y.size ≤ 100000000000
theorem within_eq (a b c : Int) : Q1e.f a b c = some (decide (b ≤ a ∧ a ≤ c)) := by
 unfold Q1e.f
 rw [cb_dec]
 by_cases h : b ≤ a <;> simp [h]
theorem withinR_eq (a b c : Int) : Q1m.f a b c = some (decide (b ≤ a ∧ a ≤ c)) := within_eq a b c
end Go.Proofs.YtahlodpolggeiaaGreatDoor
set_option linter.unusedVariables false
set_option linter.unusedSimpArgs false
namespace Go.Proofs.YtahlodpolggeiaaGreatDoor
open Go Go.Lib Go.Proofs.YtahlodpolggeiaaGreatDoor.Eng
def labs (g : List Wr) : List ByteArray := g.map (·.1)
theorem labs_get {g : List Wr} {k : Nat} (h : k < g.length) : (labs g)[k]'(by unfold labs; simpa using h) = g[k].1 := by simp [labs]
theorem find1_eq (n : Wr) (s : ByteArray) : Q2e.f n s = some (cmpS n.1 s) := rfl
theorem half {a b : Nat} (ha : a ≤ 100000000000) (hb : b ≤ 100000000000) : IntKind.i64.wrap (Int.fdiv (IntKind.u64.wrap ((a : Int) + (b : Int))) (2 ^ min (Int.toNat (1 : Int)) (IntKind.bits .u64))) = ((a + b) / 2 : Nat) := by
 have e1 : IntKind.u64.wrap ((a : Int) + (b : Int)) = ((a + b : Nat) : Int) := by
  simp only [IntKind.wrap, IntKind.bits, IntKind.signed, Bool.false_and, Bool.false_eq_true, if_false]
  have e : (2 : Int) ^ 64 = 18446744073709551616 := by decide
  rw [e]; omega
 have e2 : (2 : Int) ^ min (Int.toNat (1 : Int)) (IntKind.bits .u64) = 2 := by decide
 rw [e1, e2]
 have e3 : Int.fdiv ((a + b : Nat) : Int) 2 = ((a + b) / 2 : Nat) := by
  rw [Int.fdiv_eq_ediv_of_nonneg _ (by decide)]; omega
 rw [e3]
 exact IntWalk.i64_in _ ⟨by omega, by omega⟩
theorem find_ok {g : List Wr} (hl : g.length ≤ 1000) (hr : Rising (labs g)) (s : ByteArray) : ∃ r, Q2r.f g s = some r ∧ ((r.2 = false ∧ ∀ k : Nat, ∀ h : k < g.length, g[k].1 ≠ s) ∨ ∃ k : Nat, ∃ h : k < g.length, r = (g[k], true) ∧ g[k].1 = s) := by
 have go : ∀ (n a b : Nat), b - a = n → a ≤ b → b ≤ g.length → (∀ k : Nat, ∀ h : k < g.length, k < a → cmpS g[k].1 s < 0) → (∀ k : Nat, ∀ h : k < g.length, b ≤ k → ¬ cmpS g[k].1 s < 0) →
   ∃ c : Nat, Q0.l0 g s (a : Int) (b : Int) = some (c : Int) ∧ c ≤ g.length ∧ (∀ k : Nat, ∀ h : k < g.length, k < c → cmpS g[k].1 s < 0) ∧ (∀ k : Nat, ∀ h : k < g.length, c ≤ k → ¬ cmpS g[k].1 s < 0) := by
  intro n
  induction n using Nat.strongRecOn with
  | _ n ih =>
   intro a b hn hab hb h1 h2
   rcases Nat.lt_or_ge a b with hlt | hge
   ·have hm : (a + b) / 2 < g.length := by omega
    have hh := half (a := a) (b := b) (by omega) (by omega)
    have hmono : ∀ i j : Nat, ∀ hi : i < g.length, ∀ hj : j < g.length, i < j → cmpS g[i].1 g[j].1 < 0 := fun i j hi hj hij => by
     have := hr i j (by unfold labs; simpa using hj) hij
     rw [labs_get hi, labs_get hj] at this
     exact this
    by_cases hc : cmpS g[(a + b) / 2].1 s < 0
    ·obtain ⟨c, h3, h4⟩ := ih (b - ((a + b) / 2 + 1)) (by omega) ((a + b) / 2 + 1) b rfl (by omega) hb (fun k hk hka => by
      rcases Nat.lt_or_ge k ((a + b) / 2) with h | h
      ·exact cmpS_trans (hmono k _ hk hm h) hc
      ·have : k = (a + b) / 2 := by omega
       subst this; exact hc) h2
     refine ⟨c, (loopX_next ?_).trans h3, h4⟩
     simp only [Q0.s0, cb_dec, hh, rd_lt hm, find1_eq, ob_s]
     rw [if_pos (by omega), ck_in (by omega) (by omega), ck_pos (by omega), if_pos hc, ck_in (by omega) (by omega)]
     rfl
    ·obtain ⟨c, h3, h4⟩ := ih ((a + b) / 2 - a) (by omega) a ((a + b) / 2) rfl (by omega) (by omega) h1 (fun k hk hka => by
      intro h
      rcases Nat.lt_or_ge ((a + b) / 2) k with h5 | h5
      ·exact hc (cmpS_trans (hmono _ k hm hk h5) h)
      ·have : k = (a + b) / 2 := by omega
       subst this; exact hc h)
     refine ⟨c, (loopX_next ?_).trans h3, h4⟩
     simp only [Q0.s0, cb_dec, hh, rd_lt hm, find1_eq, ob_s]
     rw [if_pos (by omega), ck_in (by omega) (by omega), ck_pos (by omega), if_neg hc]
   ·have e : a = b := by omega
    subst e
    refine ⟨a, loopX_done ?_, hb, h1, h2⟩
    simp only [Q0.s0, cb_dec]
    rw [if_neg (by omega)]
 obtain ⟨c, h1, h2, h3, h4⟩ := go _ 0 g.length rfl (Nat.zero_le _) (Nat.le_refl _) (fun k _ h => absurd h (Nat.not_lt_zero _)) (fun k hk h => by omega)
 rw [show ((0 : Nat) : Int) = 0 from rfl] at h1
 unfold Q2r.f Q0.f
 simp only [h1, ob_s, cb_dec]
 by_cases hc : c < g.length
 ·rw [if_pos (by omega), ck_pos (by omega)]
  simp only [rd_lt hc, find1_eq, ob_s]
  by_cases h0 : cmpS g[c].1 s = 0
  ·simp only [h0, decide_true, Bool.not_true, cb_f]
   rw [ck_pos (by omega)]
   exact ⟨_, rfl, .inr ⟨c, hc, rfl, (cmpS_eq0 _ _).1 h0⟩⟩
  ·simp only [h0, decide_false, Bool.not_false, cb_t]
   refine ⟨_, rfl, .inl ⟨rfl, fun k hk e => ?_⟩⟩
   have hz : cmpS g[k].1 s = 0 := (cmpS_eq0 _ _).2 e
   rcases Nat.lt_trichotomy k c with h | h | h
   ·have := h3 k hk h; omega
   ·subst h; exact h0 hz
   ·have h5 := hr c k (by unfold labs; simpa using hk) h
    rw [labs_get hc, labs_get hk, e] at h5
    exact h4 c hc (Nat.le_refl _) h5
 ·rw [if_neg (by omega)]
  simp only [ob_s, Bool.not_false, cb_t]
  refine ⟨_, rfl, .inl ⟨rfl, fun k hk e => ?_⟩⟩
  have hz : cmpS g[k].1 s = 0 := (cmpS_eq0 _ _).2 e
  have := h3 k hk (by omega)
  omega
def mayB (w : Wr) (s : ByteArray) (t : Int) : Bool := decide (w.2.2.2.1 ≤ t) && (decide (t < w.2.2.2.2) && w.2.2.1.any (fun p => hasP s p))
theorem may_eq {w : Wr} (hw : w.2.2.1.length ≤ 100000000000) (s : ByteArray) (t : Int) : Q2u.f w s t = some (mayB w s t) := by
 have go : ∀ (n k : Nat), w.2.2.1.length - k = n → ∃ r, Q3.l0 w.2.2.1 s (w.2.2.1.length : Int) (k : Int) = some r ∧ ((r = .inr () ∧ (w.2.2.1.drop k).any (fun p => hasP s p) = false) ∨ ∃ i : Nat, r = .inl (i : Int) ∧ (w.2.2.1.drop k).any (fun p => hasP s p) = true) := by
  intro n
  induction n with
  | zero =>
   intro k hn
   refine ⟨.inr (), loopX_done ?_, .inl ⟨rfl, by rw [List.drop_eq_nil_of_le (by omega)]; rfl⟩⟩
   simp only [Q3.s0, cb_dec]
   rw [if_neg (by omega)]
  | succ n ih =>
   intro k hn
   have hlt : k < w.2.2.1.length := by omega
   rw [List.drop_eq_getElem_cons hlt, List.any_cons]
   cases e : hasP s w.2.2.1[k] with
   | true =>
    refine ⟨.inl (k : Int), loopX_done ?_, .inr ⟨k, rfl, rfl⟩⟩
    simp only [Q3.s0, cb_dec, rd_lt hlt, Q2l.f, prefix_eq, e, ob_s, cb_t]
    rw [if_pos (by omega), ck_pos (by omega)]
   | false =>
    obtain ⟨r, h1, h2⟩ := ih (k + 1) (by omega)
    refine ⟨r, (loopX_next ?_).trans h1, by simpa using h2⟩
    simp only [Q3.s0, cb_dec, rd_lt hlt, Q2l.f, prefix_eq, e, ob_s, cb_f]
    rw [if_pos (by omega), ck_pos (by omega), ck_in (by omega) (by omega)]
    rfl
 obtain ⟨r, h1, h2⟩ := go _ 0 rfl
 rw [show ((0 : Nat) : Int) = 0 from rfl, List.drop_zero] at *
 have hc : Qj.f w.2.2.1 s = some (w.2.2.1.any (fun p => hasP s p)) := by
  unfold Qj.f Q3.f
  simp only [h1, ob_s]
  rcases h2 with ⟨rfl, h3⟩ | ⟨i, rfl, h3⟩
  ·rw [h3]; rfl
  ·rw [h3]
   simp only [caseS_l, ob_s]
   rw [decide_eq_true (by omega)]
 unfold Q2u.f mayB
 simp only [hc, ob_s]
 cases decide (w.2.2.2.1 ≤ t) with
 | false => rfl
 | true =>
  cases decide (t < w.2.2.2.2) with
  | false => rfl
  | true => rfl
end Go.Proofs.YtahlodpolggeiaaGreatDoor
set_option linter.unusedVariables false
set_option linter.unusedSimpArgs false
namespace Go.Proofs.YtahlodpolggeiaaGreatDoor
open Go Go.Lib Go.Proofs.YtahlodpolggeiaaGreatDoor.Eng
theorem nq_same {β : Type} {c : Prop} {a : Option β} : nq c a a = a := by
 unfold nq
 split
 ·rfl
 ·cases a <;> simp
theorem cloneS {l : List ByteArray} (h : l.length * 16 ≤ 140737488355328) : Q12.f l = some l := by
 unfold Q12.f
 by_cases he : l = []
 ·subst he
  rw [ck_pos (by simp)]
  exact nq_same
 ·unfold nq
  rw [if_pos he, ck_pos (by simp; omega)]
  rfl
theorem equalS {l : List ByteArray} (hl : l.length ≤ 1000000000000) : Q8.f l l = some true := by
 have go : ∀ (n k : Nat), l.length - k = n → Q8.l0 l l (l.length : Int) (k : Int) = some (.inr ()) := by
  intro n
  induction n with
  | zero =>
   intro k hn
   refine loopX_done ?_
   simp only [Q8.s0, cb_dec]
   rw [if_neg (by omega)]
  | succ n ih =>
   intro k hn
   have hlt : k < l.length := by omega
   refine (loopX_next ?_).trans (ih (k + 1) (by omega))
   simp only [Q8.s0, cb_dec, rd_lt hlt, cb_not, if_true]
   rw [if_pos (by omega), ck_pos (by omega), ck_pos (by omega), ck_in (by omega) (by omega)]
   rfl
 have h := go l.length 0 (by omega)
 rw [show ((0 : Nat) : Int) = 0 from rfl] at h
 unfold Q8.f
 simp only [cb_not, cb_dec, if_true, h, ob_s, caseS_r]
theorem ck_dec {β : Type} {c : Prop} [h : Decidable c] {a : Option β} : ck c a = if c then a else none := by
 by_cases hc : c
 ·rw [ck_pos hc, if_pos hc]
 ·rw [ck_neg hc, if_neg hc]
local instance (x : Int) : Decidable (InR x) := inferInstanceAs (Decidable (_ ∧ _))
theorem split_none {s : ByteArray} (hs : s.size ≤ 100000000000) (h : Lib.countByte s.data.toList 47 = 0) : splitL s = [s] := by
 have h1 : Q1s.f s Q2z = some [s] := by
  have hcnt : Q2v.f s Q2z = some 0 := by
   unfold Q2v.f
   rw [ck_pos (by rfl)]
   show some ((Lib.countByte s.data.toList 47 : Nat) : Int) = _
   rw [h]; rfl
  have l : Qn.l0 Q2z 0 (1 - 1) s 0 (List.replicate 1 ByteArray.empty) = some (s, 0, List.replicate 1 ByteArray.empty) := loopX_done (by rfl)
  have e : ((min (0 + 1) (((s.size : Nat) : Int) + 1) : Int)) = 1 := by omega
  have e1 : Int.toNat 1 = 1 := rfl
  unfold Q1s.f Qn.f
  simp only [hcnt, ob_s, e, e1, l]
  rw [show decide ((-1 : Int) = 0) = false from rfl, cb_f, show decide (Q2z = bs_) = false from rfl, cb_f, show decide ((-1 : Int) < 0) = true from rfl, cb_t, ck_in (by omega) (by omega), ck_in (by omega) (by omega), ck_pos (by omega), ck_in (by omega) (by omega)]
  simp only [ck_dec]
  rfl
 unfold splitL
 rw [h1]; rfl
abbrev W1 : Wr := (Q30, (Q32, ([Q2i], (0, 5))))
theorem writer1 : Qp.f W1 = some 0 := by
 have l : Qp.l0 W1 [Q2i] 1 0 = some (.inr ()) := by
  refine (loopX_next (x' := 1) ?_).trans (loopX_done (by rfl))
  have e : rd ByteArray.empty [Q2i] 0 = Q2i := rfl
  simp only [Qp.s0, e, prefix_eq, isPlain_eq, ob_s, show hasP Q2i Q1i = true from by decide, show plainB Q2i = true from by decide, ck_dec]
  rfl
 have s1 : Q24.f Q32 = some true := by
  unfold Q24.f
  rw [isPlain_eq, show plainB Q32 = true from by decide]
  rfl
 unfold Qp.f
 simp only [isWord_eq, show wordB Q30 = true from by decide, s1, ob_s, within_eq]
 show cb _ _ (cb _ _ (cb _ _ (ob (Qp.l0 W1 [Q2i] 1 0) _))) = _
 rw [l]
 rfl
theorem check1 : Qi.f [W1] = some 0 := by
 have l : Qi.l0 [W1] [W1] 1 0 = some (.inr ()) := by
  refine (loopX_next (x' := 1) ?_).trans (loopX_done (by rfl))
  have e : rd (ByteArray.empty, (ByteArray.empty, (([] : List ByteArray), ((0 : Int), (0 : Int))))) [W1] 0 = W1 := rfl
  simp only [Qi.s0, e, writer1, ob_s, ck_dec]
  rfl
 unfold Qi.f
 show cb _ _ (ob (Qi.l0 [W1] [W1] 1 0) _) = _
 rw [l]
 rfl
def Q34 : ByteArray := ⟨#[97, 112, 112, 108, 101]⟩
def Q35 : ByteArray := ⟨#[120]⟩
theorem whole1 : Q1n.f Q1h = some true := by
 obtain ⟨b, h1, h2⟩ := whole_iff (s := Q1h) (by decide)
 have : b = true := h2.2 ⟨Q34, Q35, rfl, by decide, by
  unfold labF isPathB
  rw [split_none (s := Q34) (by decide) (by decide), split_none (s := Q35) (by decide) (by decide)]
  rfl⟩
 rw [h1, this]
theorem may1 (t : Int) (h0 : 0 ≤ t) (h1 : t ≤ 1000000000) : Q2o.f [W1] Q30 Q1h t = some (mayB W1 Q1h t, 0) := by
 have hr : Rising (labs [W1]) := fun i j h h' => by
  have : j < 1 := h
  omega
 obtain ⟨r, r1, r2⟩ := find_ok (g := [W1]) (by decide) hr Q30
 have hr2 : r = (W1, true) := by
  rcases r2 with ⟨_, h⟩ | ⟨k, hk, e, _⟩
  ·exact absurd rfl (h 0 (by decide))
  ·have : k = 0 := by simp at hk; exact hk
   subst this
   exact e
 unfold Q2o.f
 simp only [check1, ob_s, isWord_eq, show wordB Q30 = true from by decide, whole1, within_eq, decide_eq_true (show 0 ≤ t ∧ t ≤ 1000000000 from ⟨h0, h1⟩), r1, hr2, may_eq (w := W1) (by decide)]
 rfl
theorem awake11 : Q2k.f = some true := by
 have m1 : mayB W1 Q1h 4 = true := by decide
 have m2 : mayB W1 Q1h 5 = false := by decide
 have a1 := may1 4 (by decide) (by decide)
 have a2 := may1 5 (by decide) (by decide)
 rw [m1] at a1
 rw [m2] at a2
 unfold Q2k.f
 show ob (Q2o.f [W1] Q30 Q1h 4) _ = _
 rw [a1, ob_s]
 show ob (Q2o.f [W1] Q30 Q1h 5) _ = _
 rw [a2, ob_s]
 rfl
end Go.Proofs.YtahlodpolggeiaaGreatDoor
set_option linter.unusedVariables false
set_option linter.unusedSimpArgs false
namespace Go.Proofs.YtahlodpolggeiaaGreatDoor
open Go Go.Lib Go.Proofs.YtahlodpolggeiaaGreatDoor.Eng
abbrev Cl := ByteArray × (ByteArray × (ByteArray × (ByteArray × (Int × ((List ByteArray) × ByteArray)))))
def szC (c : Cl) : Prop := c.2.1.size ≤ BIG
def szR (c : Cl) : Prop := c.2.1.size ≤ 100000000000
theorem szR.toC {c : Cl} (h : szR c) : szC c := Nat.le_trans h (by decide)
abbrev hexCs : ByteArray := Qf
def digC (c : UInt8) : Bool := decide (48 ≤ c.toNat ∧ c.toNat ≤ 57) || decide (97 ≤ c.toNat ∧ c.toNat ≤ 102)
theorem digC_eq (c : UInt8) : hexCs.data.toList.contains c = digC c := by
 have h : ((List.range 256).all fun n => hexCs.data.toList.contains (UInt8.ofNat n) == digC (UInt8.ofNat n)) = true := by decide +kernel
 have := List.all_eq_true.1 h c.toNat (List.mem_range.2 c.toNat_lt)
 simpa using this
def digB (s : ByteArray) : Bool := decide (s.size = 16) && s.data.toList.all digC
theorem isDigest_eq (s : ByteArray) : Q1t.f s = some (digB s) := by
 unfold Q1t.f digB
 simp only [cb_dec]
 by_cases h : s.size = 16
 ·rw [if_pos (by omega)]
  unfold Q2g.f
  rw [ck_pos ⟨by omega, by decide, by decide +kernel⟩, ob_s]
  congr 1
  rw [decide_eq_true h, Bool.true_and]
  have e : (⟨(trimS s.data.toList hexCs.data.toList).toArray⟩ = bs_) ↔ s.data.toList.all digC = true := by
   rw [show (s.data.toList.all digC = true) ↔ (s.data.toList.all (fun c => hexCs.data.toList.contains c) = true) by simp only [digC_eq], ← trim_nil]
   constructor
   ·intro h
    have := congrArg (fun b : ByteArray => b.data.toList) h
    simpa [bs_] using this
   ·intro h
    rw [h]; rfl
  cases hh : s.data.toList.all digC with
  | true => exact decide_eq_true (e.2 hh)
  | false => exact decide_eq_false (fun h => by rw [e.1 h] at hh; cases hh)
 ·rw [if_neg (by omega), decide_eq_false h]; rfl
theorem digB_size {s : ByteArray} (h : digB s = true) : s.size = 16 := by
 unfold digB at h
 simp only [Bool.and_eq_true, decide_eq_true_eq] at h
 exact h.1
theorem usesLoop {c : Cl} (hn : c.2.2.2.2.2.1.length ≤ 50) : ∀ (n k : Nat), c.2.2.2.2.2.1.length - k = n → ∃ r, Qb.l0 c c.2.2.2.2.2.1 (c.2.2.2.2.2.1.length : Int) (k : Int) = some r ∧ ((r = .inr () ∧ ∀ j : Nat, ∀ h : j < c.2.2.2.2.2.1.length, k ≤ j → digB c.2.2.2.2.2.1[j] = true) ∨ ∃ f : Int, f ≠ 0 ∧ r = .inl f) := by
 intro n
 induction n with
 | zero =>
  intro k hk
  refine ⟨.inr (), loopX_done ?_, .inl ⟨rfl, fun j h1 h2 => by omega⟩⟩
  simp only [Qb.s0, cb_dec]
  rw [if_neg (by omega)]
 | succ n ih =>
  intro k hk
  have hlt : k < c.2.2.2.2.2.1.length := by omega
  obtain ⟨r, h1, h2⟩ := ih (k + 1) (by omega)
  have e : ((k : Int) + 1) = ((k + 1 : Nat) : Int) := by omega
  by_cases hd : digB c.2.2.2.2.2.1[k] = true
  ·have next : Qb.s0 c c.2.2.2.2.2.1 (c.2.2.2.2.2.1.length : Int) (k : Int) = some (.inl ((k + 1 : Nat) : Int)) ∨ Qb.s0 c c.2.2.2.2.2.1 (c.2.2.2.2.2.1.length : Int) (k : Int) = some (.inr (.inl 8)) := by
    simp only [Qb.s0, cb_dec]
    rw [if_pos (by omega), ck_pos ⟨by omega, by omega⟩, rd_lt hlt]
    simp only [isDigest_eq, hd, ob_s, Bool.not_true, cb_f]
    by_cases h0 : 0 < k
    ·rw [if_pos (by omega), ck_in (by omega) (by omega), ck_pos ⟨by omega, by omega⟩]
     cases bless c.2.2.2.2.2.1[k] (rd ByteArray.empty c.2.2.2.2.2.1 ((k : Int) - 1)) || decide (c.2.2.2.2.2.1[k] = rd ByteArray.empty c.2.2.2.2.2.1 ((k : Int) - 1)) with
     | true => exact .inr rfl
     | false => rw [cb_f, ck_in (by omega) (by omega), e]; exact .inl rfl
    ·rw [if_neg (by omega), ck_in (by omega) (by omega), e]; exact .inl rfl
   rcases next with hs | hs
   ·refine ⟨r, (loopX_next hs).trans h1, ?_⟩
    rcases h2 with ⟨h2, h3⟩ | h2
    ·refine .inl ⟨h2, fun j hj hkj => ?_⟩
     rcases Nat.eq_or_lt_of_le hkj with rfl | h4
     ·exact hd
     ·exact h3 j hj h4
    ·exact .inr h2
   ·exact ⟨.inl 8, loopX_done hs, .inr ⟨8, by decide, rfl⟩⟩
  ·refine ⟨.inl 3, loopX_done ?_, .inr ⟨3, by decide, rfl⟩⟩
   simp only [Qb.s0, cb_dec]
   rw [if_pos (by omega), ck_pos ⟨by omega, by omega⟩, rd_lt hlt]
   simp only [isDigest_eq, Bool.not_eq_true _ ▸ hd, ob_s]
   rfl
structure OkC (c : Cl) : Prop where
 key : digB c.1 = true
 label : c.2.1.size ≤ 403
 whole : Q1n.f c.2.1 = some true
 result : digB c.2.2.1 = true
 writer : wordB c.2.2.2.1 = true
 at0 : 0 ≤ c.2.2.2.2.1
 at1 : c.2.2.2.2.1 ≤ 1000000000
 many : c.2.2.2.2.2.1.length ≤ 50
 uses : ∀ y ∈ c.2.2.2.2.2.1, y.size = 16
 sign : c.2.2.2.2.2.2.size ≤ 16
theorem IsLab.size {s : ByteArray} (h : IsLab s) : s.size ≤ 403 := by
 obtain ⟨x, y, h1, h2, h3⟩ := h
 have hp : ∀ z : ByteArray, isPathB z = true → z.size ≤ 200 := fun z hz => by
  unfold isPathB at hz
  split at hz
  ·rename_i h; exact h.2
  ·cases hz
 unfold labF at h3
 split at h3
 ·rename_i h4
  have hx : x.size ≤ 200 := by
   rcases h4.1 with h5 | h5
   ·have h5 : x = bs_ := h5
    rw [h5]; decide
   ·exact hp _ h5
  have hy := hp _ h4.2
  have hl := congrArg List.length h1
  simp only [List.length_append, List.length_cons, List.length_nil] at hl
  rw [← size_list, ← size_list, ← size_list] at hl
  have hx : ByteArray.size x ≤ 200 := hx
  have hy : ByteArray.size y ≤ 200 := hy
  omega
 ·cases h3
theorem checkR {c : Cl} (hs : szR c) : Qb.f c = Qt.f c := by
 obtain ⟨hl, b, hb⟩ := label_eq (s := c.2.1) hs
 unfold Qb.f Qt.f
 rw [hl, isWord_eq, isWord_ref]
 rfl
theorem checkC {c : Cl} (hs : szC c) : ∃ f : Int, Qb.f c = some f ∧ (f = 0 → OkC c) := by
 obtain ⟨b, hb, hbl⟩ := whole_iff (s := c.2.1) hs
 unfold Qb.f
 simp only [isDigest_eq, isWord_eq, within_eq, hb, ob_s, cb_not]
 cases g1 : digB c.1 with
 | false => exact ⟨3, rfl, fun h => by cases h⟩
 | true =>
  cases b with
  | false => exact ⟨10, rfl, fun h => by cases h⟩
  | true =>
   have gl := IsLab.size (hbl.1 rfl)
   cases g3 : digB c.2.2.1 with
   | false => exact ⟨3, rfl, fun h => by cases h⟩
   | true =>
    cases g4 : wordB c.2.2.2.1 with
    | false => exact ⟨5, rfl, fun h => by cases h⟩
    | true =>
     simp only [cb_t, cb_dec]
     by_cases g5 : (0 : Int) ≤ c.2.2.2.2.1 ∧ c.2.2.2.2.1 ≤ 1000000000
     ·rw [if_pos g5]
      by_cases g6 : 50 < c.2.2.2.2.2.1.length
      ·rw [if_pos (by omega)]
       exact ⟨2, rfl, fun h => by cases h⟩
      ·rw [if_neg (by omega)]
       obtain ⟨r, h8, h9⟩ := usesLoop (c := c) (by omega) _ 0 rfl
       rw [show ((0 : Nat) : Int) = 0 from rfl] at h8
       rw [h8, ob_s]
       rcases h9 with ⟨rfl, h9⟩ | ⟨f, hf, rfl⟩
       ·rw [caseS_r]
        by_cases g7 : c.2.2.2.2.2.2 = bs_
        ·rw [if_pos g7]
         refine ⟨0, rfl, fun _ => ⟨g1, gl, hb, g3, g4, g5.1, g5.2, by omega, fun y hy => ?_, by rw [g7]; decide⟩⟩
         obtain ⟨j, hj, rfl⟩ := List.getElem_of_mem hy
         exact digB_size (h9 j hj (Nat.zero_le _))
        ·rw [if_neg g7]
         cases g8 : digB c.2.2.2.2.2.2 with
         | false => exact ⟨3, rfl, fun h => by cases h⟩
         | true =>
          refine ⟨0, rfl, fun _ => ⟨g1, gl, hb, g3, g4, g5.1, g5.2, by omega, fun y hy => ?_, by rw [digB_size g8]; decide⟩⟩
          obtain ⟨j, hj, rfl⟩ := List.getElem_of_mem hy
          exact digB_size (h9 j hj (Nat.zero_le _))
       ·rw [caseS_l]
        exact ⟨f, rfl, fun h => absurd h hf⟩
     ·rw [if_neg g5]
      exact ⟨1, rfl, fun h => by cases h⟩
theorem itoa_size {n : Int} (h0 : -9223372036854775808 ≤ n) (h1 : n ≤ 9223372036854775807) : (itoaB n).size ≤ 21 := by
 have e : (itoaB n).size = (Lib.itoa n).length := List.size_toArray ..
 rw [e]; exact Lib.itoa_length_le n h0 h1
end Go.Proofs.YtahlodpolggeiaaGreatDoor
set_option linter.unusedVariables false
set_option linter.unusedSimpArgs false
namespace Go.Proofs.YtahlodpolggeiaaGreatDoor
open Go Go.Lib Go.Proofs.YtahlodpolggeiaaGreatDoor.Eng
theorem wrapU (n : Int) : IntKind.u64.wrap n = n % 18446744073709551616 := by
 simp only [IntKind.wrap, IntKind.bits, IntKind.signed, Bool.false_and, Bool.false_eq_true, if_false]
 have e : (2 : Int) ^ 64 = 18446744073709551616 := by decide
 rw [e]
theorem wrapU_in {n : Int} (h0 : 0 ≤ n) (h1 : n < 18446744073709551616) : IntKind.u64.wrap n = n := by rw [wrapU]; omega
def hstep (h : Int) (c : UInt8) : Int := IntKind.u64.wrap (IntKind.u64.wrap ((BitVec.toNat (BitVec.ofInt (IntKind.bits .u64) h ^^^ BitVec.ofInt (IntKind.bits .u64) (IntKind.u64.wrap ((UInt8.toNat c : Nat) : Int))) : Nat) : Int) * (1099511628211 : Int))
def hashL (h : Int) : List UInt8 → Int
 | [] => h
 | c :: r => hashL (hstep h c) r
theorem hashL_in : ∀ (l : List UInt8) (h : Int), 0 ≤ h ∧ h < 18446744073709551616 → 0 ≤ hashL h l ∧ hashL h l < 18446744073709551616
 | [], h, hh => hh
 | c :: r, h, _ => hashL_in r _ (by unfold hstep; rw [wrapU]; omega)
theorem hash_loop {l : List UInt8} (hl : l.length ≤ BIG) : ∀ (n k : Nat) (h : Int), l.length - k = n → Qo.l0 l (l.length : Int) h (k : Int) = some (hashL h (l.drop k)) := by
 have hB : BIG = 140737488355328 := rfl
 intro n
 induction n with
 | zero =>
  intro k h hk
  refine loopX_done ?_
  simp only [Qo.s0, cb_dec]
  rw [if_neg (by omega), List.drop_eq_nil_of_le (by omega)]
  rfl
 | succ n ih =>
  intro k h hk
  have hlt : k < l.length := by omega
  have e : ((k : Int) + 1) = ((k + 1 : Nat) : Int) := by omega
  rw [List.drop_eq_getElem_cons hlt]
  refine (loopX_next ?_).trans (ih (k + 1) (hstep h l[k]) (by omega))
  simp only [Qo.s0, cb_dec]
  rw [if_pos (by omega), ck_pos ⟨by omega, by omega⟩, ck_in (by omega) (by omega), rd_lt hlt, e]
  rfl
theorem hashR_loop (l : List UInt8) (h k : Int) : Qu.l0 l h k = Qo.l0 l (l.length : Int) h k := rfl
def hexD (R k : Nat) : UInt8 := bt hexCs (((R / 16 ^ k % 16 : Nat)) : Int)
def digs (R : Nat) : Nat → List UInt8
 | 0 => []
 | k + 1 => hexD R k :: digs R k
theorem set_rep {α : Type} (a b : α) (t : List α) : ∀ m : Nat, (List.replicate (m + 1) a ++ t).set m b = List.replicate m a ++ b :: t
 | 0 => rfl
 | m + 1 => by
  rw [List.replicate_succ, List.cons_append, List.set_cons_succ, set_rep a b t m, List.replicate_succ, List.cons_append]
theorem and15 (x : Nat) (h : x < 18446744073709551616) : IntKind.u64.wrap ((BitVec.toNat (BitVec.ofInt (IntKind.bits .u64) ((x : Nat) : Int) &&& BitVec.ofInt (IntKind.bits .u64) (15 : Int)) : Nat) : Int) = ((x % 16 : Nat) : Int) := by
 have e1 : BitVec.toNat (BitVec.ofInt (IntKind.bits .u64) ((x : Nat) : Int)) = x := by
  rw [BitVec.toNat_ofInt]
  simp only [IntKind.bits]
  omega
 have e2 : BitVec.toNat (BitVec.ofInt (IntKind.bits .u64) (15 : Int)) = 2 ^ 4 - 1 := by decide
 rw [BitVec.toNat_and, e1, e2, Nat.and_two_pow_sub_one_eq_mod, wrapU]
 omega
theorem hex_loop {R : Nat} (hR : R < 18446744073709551616) : ∀ (n i : Nat), 16 - i = n → i ≤ 16 → Qo.l1 16 (((R / 16 ^ i : Nat)) : Int) (i : Int) (List.replicate (16 - i) 0 ++ digs R i) = some (digs R 16) := by
 intro n
 induction n with
 | zero =>
  intro i hn hi
  obtain rfl : i = 16 := by omega
  refine loopX_done ?_
  simp only [Qo.s1, cb_dec]
  rw [if_neg (by decide)]
  simp
 | succ n ih =>
  intro i hn hi
  have hlen : (List.replicate (16 - i) (0 : UInt8) ++ digs R i).length = 16 := by
   have : ∀ k, (digs R k).length = k := fun k => by induction k with | zero => rfl | succ k ih => simp [digs, ih]
   rw [List.length_append, this, List.length_replicate]; omega
  have hx : R / 16 ^ i < 18446744073709551616 := Nat.lt_of_le_of_lt (Nat.div_le_self _ _) hR
  refine (loopX_next ?_).trans (ih (i + 1) (by omega) (by omega))
  have hsz : ((ByteArray.size Qf : Nat) : Int) = 16 := by decide
  have e1 : (Int.toNat ((15 : Int) - (i : Int))) = 15 - i := by omega
  simp only [Qo.s1, cb_dec, and15 _ hx, hsz, hlen, e1]
  rw [if_pos (by omega), ck_in (by omega) (by omega), ck_pos ⟨by omega, by omega⟩, ck_pos ⟨by omega, by omega⟩, ck_pos (by omega), ck_in (by omega) (by omega)]
  congr 3
  ·rw [Int.fdiv_eq_ediv_of_nonneg _ (by decide)]
   have e2 : (2 : Int) ^ min (Int.toNat (4 : Int)) (IntKind.bits .u64) = ((16 : Nat) : Int) := by decide
   rw [e2, ← Int.natCast_ediv, Nat.div_div_eq_div_mul, Nat.pow_succ]
  ·congr 1
   have e3 : 16 - i = (15 - i) + 1 := by omega
   rw [e3, set_rep, show 16 - (i + 1) = 15 - i by omega]
   rfl
theorem hexR : ∀ d : Nat, d < 16 → (ByteArray.extract Qf d (d + 1)).data.toList = [bt hexCs (d : Int)] ∧ (ByteArray.extract Qf d (d + 1)).size = 1 := by decide +kernel
theorem hexR_loop {R : Nat} (hR : R < 18446744073709551616) : ∀ (n : Nat) (s : ByteArray), n ≤ 16 → s.size ≤ 100 - n → Qu.l1 ((R : Nat) : Int) s (4 * (n : Int) - 4) = some (s ++ ⟨(digs R n).toArray⟩) := by
 intro n
 induction n with
 | zero =>
  intro s hn hs
  refine loopX_done ?_
  simp only [Qu.s1, cb_dec]
  rw [if_neg (by decide)]
  have e : s ++ (⟨(digs R 0).toArray⟩ : ByteArray) = s := L_ext (by rw [L_app]; simp [digs])
  rw [e]
 | succ n ih =>
  intro s hn hs
  have hsz : ((ByteArray.size Qf : Nat) : Int) = 16 := by decide
  have e0 : (4 * ((n + 1 : Nat) : Int) - 4) = ((4 * n : Nat) : Int) := by omega
  have e1 : Int.tmod (Int.fdiv ((R : Nat) : Int) (2 ^ min (Int.toNat ((4 * n : Nat) : Int)) (IntKind.bits .u64))) 16 = ((R / 16 ^ n % 16 : Nat) : Int) := by
   have e2 : min (Int.toNat ((4 * n : Nat) : Int)) (IntKind.bits .u64) = 4 * n := by
    show min (Int.toNat ((4 * n : Nat) : Int)) 64 = 4 * n
    omega
   have e3 : (2 : Int) ^ (4 * n) = ((16 ^ n : Nat) : Int) := by
    rw [Int.pow_mul]
    norm_cast
   rw [e2, e3, Int.fdiv_eq_ediv_of_nonneg _ (Int.natCast_nonneg _), ← Int.natCast_ediv, Int.tmod_eq_emod_of_nonneg (Int.natCast_nonneg _)]
   exact (Int.natCast_emod _ _).symm
  obtain ⟨h1, h2⟩ := hexR (R / 16 ^ n % 16) (Nat.mod_lt _ (by decide))
  have hd : R / 16 ^ n % 16 < 16 := Nat.mod_lt _ (by decide)
  rw [e0]
  have e4 : ∀ z : Int, ((4 * n : Nat) : Int) - 4 = 4 * (n : Int) - 4 := fun _ => by omega
  refine (loopX_next (x' := (s ++ ByteArray.extract Qf (R / 16 ^ n % 16) (R / 16 ^ n % 16 + 1), 4 * (n : Int) - 4)) ?_).trans ((ih _ (by omega) (by rw [ByteArray.size_append, h2]; omega)).trans ?_)
  ·simp only [Qu.s1, cb_dec, e1, hsz]
   rw [if_pos (by omega), ck_pos (by omega)]
   rw [wrapU_in (n := ((R / 16 ^ n % 16 : Nat) : Int) + 1) (by omega) (by omega)]
   rw [ck_pos ⟨by omega, by omega, by omega⟩]
   have e5 : (Int.toNat ((R / 16 ^ n % 16 : Nat) : Int)) = R / 16 ^ n % 16 := by omega
   have e6 : (Int.toNat (((R / 16 ^ n % 16 : Nat) : Int) + 1)) = R / 16 ^ n % 16 + 1 := by omega
   rw [e5, e6, h2, ck_pos (by omega), ck_in (by omega) (by omega), e4 0]
  ·congr 1
   apply L_ext
   rw [L_app, L_app, L_app, h1]
   simp [digs, hexD]
def dgB (l : List UInt8) : ByteArray := ⟨(digs (hashL 14695981039346656037 l).toNat 16).toArray⟩
theorem digs_len (R : Nat) : ∀ k, (digs R k).length = k
 | 0 => rfl
 | k + 1 => by simp [digs, digs_len R k]
theorem dgB_size (l : List UInt8) : (dgB l).size = 16 := by
 rw [size_list]
 simp [dgB, digs_len]
theorem digest_eq {l : List UInt8} (hl : l.length ≤ BIG) : Qo.f l = some (dgB l) := by
 have h := hash_loop hl _ 0 14695981039346656037 rfl
 obtain ⟨h1, h2⟩ := hashL_in l 14695981039346656037 (by decide)
 rw [List.drop_zero, show ((0 : Nat) : Int) = 0 from rfl] at h
 obtain ⟨R, hR⟩ := Int.eq_ofNat_of_zero_le h1
 unfold Qo.f
 simp only [h, ob_s]
 rw [ck_pos (by decide)]
 have h3 := hex_loop (R := R) (by omega) _ 0 rfl (by decide)
 have e1 : ((List.length (List.replicate (Int.toNat (16 : Int)) (0 : UInt8)) : Nat) : Int) = 16 := by decide
 have e2 : List.replicate (Int.toNat (16 : Int)) (0 : UInt8) = List.replicate (16 - 0) 0 ++ digs R 0 := rfl
 have e3 : (R / 16 ^ 0 : Nat) = R := by simp
 rw [e3] at h3
 rw [e1, e2, hR]
 rw [show (0 : Int) = ((0 : Nat) : Int) from rfl, h3, ob_s]
 unfold dgB
 rw [hR]
 rfl
theorem digestRef_eq {l : List UInt8} (hl : l.length ≤ BIG) : Qu.f l = some (dgB l) := by
 have h := hash_loop hl _ 0 14695981039346656037 rfl
 obtain ⟨h1, h2⟩ := hashL_in l 14695981039346656037 (by decide)
 rw [List.drop_zero, show ((0 : Nat) : Int) = 0 from rfl] at h
 obtain ⟨R, hR⟩ := Int.eq_ofNat_of_zero_le h1
 unfold Qu.f
 rw [hashR_loop, h, ob_s, hR]
 have h3 := hexR_loop (R := R) (by omega) 16 bs_ (by decide) (by decide)
 rw [show (4 * ((16 : Nat) : Int) - 4) = 60 from rfl] at h3
 rw [h3, ob_s]
 unfold dgB
 rw [hR]
 congr 1
end Go.Proofs.YtahlodpolggeiaaGreatDoor
set_option linter.unusedVariables false
set_option linter.unusedSimpArgs false
namespace Go.Proofs.YtahlodpolggeiaaGreatDoor
open Go Go.Lib Go.Proofs.YtahlodpolggeiaaGreatDoor.Eng
abbrev C0 : Cl := (ByteArray.empty, (ByteArray.empty, (ByteArray.empty, (ByteArray.empty, ((0 : Int), (([] : (List ByteArray)), ByteArray.empty))))))
theorem logStep {l : List Cl} (hs : ∀ c ∈ l, szR c) (x : Int) : Qk.s0 l l (l.length : Int) x = Qx.s0 l l (l.length : Int) x := by
 by_cases h : 0 ≤ x ∧ x < (l.length : Int)
 ·obtain ⟨k, rfl⟩ := Int.eq_ofNat_of_zero_le h.1
  have hk : k < l.length := by omega
  unfold Qk.s0 Qx.s0
  rw [rd_lt hk]
  simp only [checkR (hs _ (List.getElem_mem hk))]
 ·unfold Qk.s0 Qx.s0
  rw [ck_neg (by omega), ck_neg (by omega)]
theorem checkLog_ref {l : List Cl} (hs : ∀ c ∈ l, szR c) : Qk.f l = Qx.f l := by
 unfold Qk.f Qx.f
 have e : Qk.l0 l l (l.length : Int) 0 = Qx.l0 l l (l.length : Int) 0 := by
  unfold Qk.l0 Qx.l0
  congr 1
  funext x
  exact logStep hs x
 simp only [e]
theorem logLoop {l : List Cl} (hl : l.length ≤ 1000) (hs : ∀ c ∈ l, szC c) : ∀ (n k : Nat), l.length - k = n → ∃ r, Qk.l0 l l (l.length : Int) (k : Int) = some r ∧ ((r = .inr () ∧ ∀ j : Nat, ∀ h : j < l.length, k ≤ j → Qb.f l[j] = some 0 ∧ l[j].2.2.2.2.2.2 ≠ bs_ ∧ ∀ h' : 0 < j, (l[j - 1]'(by omega)).2.2.2.2.1 ≤ l[j].2.2.2.2.1) ∨ ∃ f : Int, f ≠ 0 ∧ r = .inl f) := by
 intro n
 induction n with
 | zero =>
  intro k hk
  refine ⟨.inr (), loopX_done ?_, .inl ⟨rfl, fun j h1 h2 => by omega⟩⟩
  simp only [Qk.s0, cb_dec]
  rw [if_neg (by omega)]
 | succ n ih =>
  intro k hk
  have hlt : k < l.length := by omega
  obtain ⟨r, h1, h2⟩ := ih (k + 1) (by omega)
  have e : ((k : Int) + 1) = ((k + 1 : Nat) : Int) := by omega
  obtain ⟨f, hf, hf0⟩ := checkC (hs _ (List.getElem_mem hlt))
  have step : Qk.s0 l l (l.length : Int) (k : Int) = some (.inr (.inl f)) ∧ f ≠ 0 ∨ Qk.s0 l l (l.length : Int) (k : Int) = some (.inr (.inl 3)) ∨ Qk.s0 l l (l.length : Int) (k : Int) = some (.inr (.inl 8)) ∨ (Qk.s0 l l (l.length : Int) (k : Int) = some (.inl ((k + 1 : Nat) : Int)) ∧ f = 0 ∧ l[k].2.2.2.2.2.2 ≠ bs_ ∧ ∀ h' : 0 < k, (l[k - 1]'(by omega)).2.2.2.2.1 ≤ l[k].2.2.2.2.1) := by
   simp only [Qk.s0, cb_dec]
   rw [if_pos (by omega), ck_pos ⟨by omega, by omega⟩, rd_lt hlt, hf, ob_s]
   by_cases h0 : f = 0
   ·rw [decide_eq_true h0]
    simp only [Bool.not_true, cb_f]
    by_cases g : l[k].2.2.2.2.2.2 = bs_
    ·rw [if_pos g]; exact .inr (.inl rfl)
    ·rw [if_neg g]
     by_cases h3 : 0 < k
     ·have e2 : ((k : Int) - 1) = ((k - 1 : Nat) : Int) := by omega
      rw [if_pos (by omega), ck_in (by omega) (by omega), ck_pos ⟨by omega, by omega⟩, e2, rd_lt (show k - 1 < l.length by omega)]
      by_cases h4 : l[k].2.2.2.2.1 < (l[k - 1]'(by omega)).2.2.2.2.1
      ·rw [if_pos h4]; exact .inr (.inr (.inl rfl))
      ·rw [if_neg h4, ck_in (by omega) (by omega), e]
       exact .inr (.inr (.inr ⟨rfl, h0, g, fun _ => by omega⟩))
     ·rw [if_neg (by omega), ck_in (by omega) (by omega), e]
      exact .inr (.inr (.inr ⟨rfl, h0, g, fun h => absurd h h3⟩))
   ·rw [decide_eq_false h0]
    exact .inl ⟨rfl, h0⟩
  rcases step with ⟨hx, h0⟩ | hx | hx | ⟨hx, h0, hg, h4⟩
  ·exact ⟨.inl f, loopX_done hx, .inr ⟨f, h0, rfl⟩⟩
  ·exact ⟨.inl 3, loopX_done hx, .inr ⟨3, by decide, rfl⟩⟩
  ·exact ⟨.inl 8, loopX_done hx, .inr ⟨8, by decide, rfl⟩⟩
  ·refine ⟨r, (loopX_next hx).trans h1, ?_⟩
   rcases h2 with ⟨h2, h5⟩ | h2
   ·refine .inl ⟨h2, fun j hj hkj => ?_⟩
    rcases Nat.eq_or_lt_of_le hkj with rfl | h6
    ·exact ⟨by rw [hf, h0], hg, h4⟩
    ·exact h5 j hj h6
   ·exact .inr h2
structure OkL (l : List Cl) : Prop where
 len : l.length ≤ 1000
 ok : ∀ c ∈ l, Qb.f c = some 0 ∧ OkC c
 sign : ∀ c ∈ l, c.2.2.2.2.2.2 ≠ bs_
 rise : ∀ j : Nat, ∀ h : j < l.length, ∀ h' : 0 < j, (l[j - 1]'(by omega)).2.2.2.2.1 ≤ l[j].2.2.2.2.1
theorem checkLog {l : List Cl} (hs : ∀ c ∈ l, szC c) : ∃ f : Int, Qk.f l = some f ∧ (f = 0 → OkL l) := by
 unfold Qk.f
 simp only [cb_dec]
 by_cases h : 1000 < l.length
 ·rw [if_pos (by omega)]; exact ⟨2, rfl, fun h => by cases h⟩
 ·rw [if_neg (by omega)]
  obtain ⟨r, h1, h2⟩ := logLoop (l := l) (by omega) hs _ 0 rfl
  rw [show ((0 : Nat) : Int) = 0 from rfl] at h1
  rw [h1, ob_s]
  rcases h2 with ⟨rfl, h3⟩ | ⟨f, hf, rfl⟩
  ·refine ⟨0, rfl, fun _ => ⟨by omega, fun c hc => ?_, fun c hc => ?_, fun j hj hj0 => (h3 j hj (Nat.zero_le _)).2.2 hj0⟩⟩
   ·obtain ⟨j, hj, rfl⟩ := List.getElem_of_mem hc
    have h4 := (h3 j hj (Nat.zero_le _)).1
    obtain ⟨f, hf, hf0⟩ := checkC (hs _ hc)
    rw [h4] at hf
    exact ⟨h4, hf0 (Option.some.inj hf).symm⟩
   ·obtain ⟨j, hj, rfl⟩ := List.getElem_of_mem hc
    exact (h3 j hj (Nat.zero_le _)).2.1
  ·exact ⟨f, rfl, fun h => absurd h hf⟩
end Go.Proofs.YtahlodpolggeiaaGreatDoor
set_option linter.unusedVariables false
set_option linter.unusedSimpArgs false
namespace Go.Proofs.YtahlodpolggeiaaGreatDoor
open Go Go.Lib Go.Proofs.YtahlodpolggeiaaGreatDoor.Eng
inductive Both (l : List Wr) (c : Cl) : Prop
 | no (f : Int) (hf : f ≠ 0) (h : Q27.f l c = some f)
 | none (h : Q27.f l c = some 0) (hc : Qb.f c = some 0) (hk : OkC c) (hl : l.length ≤ 50) (hr : Rising (labs l)) (hn : ∀ k : Nat, ∀ h : k < l.length, l[k].1 ≠ c.2.2.2.1)
 | one (k : Nat) (hkl : k < l.length) (h : Q27.f l c = some 0) (hc : Qb.f c = some 0) (hk : OkC c) (hl : l.length ≤ 50) (hr : Rising (labs l)) (he : l[k].1 = c.2.2.2.1)
section
variable {l : List Wr} {c : Cl} (hs : ∀ w ∈ l, szW w) (hn : ∀ w ∈ l, w.2.2.1.length ≤ 100000000000)
end
theorem sameC {c : Cl} (h : c.2.2.2.2.2.1.length ≤ 1000000000000) : Q1w.f c c = some true := by
 unfold Q1w.f
 simp only [decide_true, cb_t, equalS h, ob_s]
theorem copyC {c : Cl} (h : c.2.2.2.2.2.1.length * 16 ≤ 140737488355328) : Q1y.f c = some c := by
 unfold Q1y.f
 rw [cloneS h, ob_s]
theorem copyL {l : List Cl} (hl : l.length ≤ 100000000000) (hn : ∀ c ∈ l, c.2.2.2.2.2.1.length ≤ 1000000000000) : Q1p.f l = some l := by
 have go : ∀ (n k : Nat) (o : List Cl), l.length - k = n → k ≤ l.length → o.length = k → Q1p.l0 l (l.length : Int) (k : Int) o = some (o ++ l.drop k) := by
  intro n
  induction n with
  | zero =>
   intro k o hn hk ho
   rw [List.drop_eq_nil_of_le (by omega), List.append_nil]
   refine loopX_done ?_
   simp only [Q1p.s0, cb_dec]
   rw [if_neg (by omega)]
  | succ n ih =>
   intro k o hn' hk ho
   have hlt : k < l.length := by omega
   have hw := hn _ (List.getElem_mem hlt)
   have h2 := ih (k + 1) (o ++ [l[k]]) (by omega) (by omega) (by simp [ho])
   rw [List.append_assoc, List.singleton_append, ← List.drop_eq_getElem_cons hlt] at h2
   refine (loopX_next ?_).trans h2
   simp only [Q1p.s0, cb_dec, rd_lt hlt, copyC (c := l[k]) (by omega), ob_s]
   rw [if_pos (by omega), ck_pos (by omega), ck_pos (by simp only [List.length_cons, List.length_nil]; omega), ck_in (by omega) (by omega)]
   rfl
 unfold Q1p.f
 have h := go l.length 0 [] (by omega) (by omega) rfl
 rw [List.drop_zero, List.nil_append, show ((0 : Nat) : Int) = 0 from rfl] at h
 simp only [h, ob_s]
theorem sameL {l : List Cl} (hl : l.length ≤ 100000000000) (hn : ∀ c ∈ l, c.2.2.2.2.2.1.length ≤ 1000000000000) : Q1q.f l l = some true := by
 have go : ∀ (n k : Nat), l.length - k = n → Q1q.l0 l l (l.length : Int) (k : Int) = some (.inr ()) := by
  intro n
  induction n with
  | zero =>
   intro k hn'
   refine loopX_done ?_
   simp only [Q1q.s0, cb_dec]
   rw [if_neg (by omega)]
  | succ n ih =>
   intro k hn'
   have hlt : k < l.length := by omega
   have hw := hn _ (List.getElem_mem hlt)
   have c0 : 0 ≤ (k : Int) ∧ (k : Int) < (l.length : Int) := by omega
   have c1 : InR ((k : Int) + 1) := ⟨by omega, by omega⟩
   refine (loopX_next ?_).trans (ih (k + 1) (by omega))
   simp only [Q1q.s0, cb_dec, rd_lt hlt, ck_pos c0, ck_pos c1, if_pos c0.2, sameC hw, ob_s, Bool.not_true, cb_f]
   rfl
 have h := go l.length 0 (by omega)
 rw [show ((0 : Nat) : Int) = 0 from rfl] at h
 unfold Q1q.f
 simp only [cb_not, cb_dec, if_true, h, ob_s, caseS_r]
end Go.Proofs.YtahlodpolggeiaaGreatDoor
set_option linter.unusedVariables false
set_option linter.unusedSimpArgs false
namespace Go.Proofs.YtahlodpolggeiaaGreatDoor
open Go Go.Proofs.YtahlodpolggeiaaGreatDoor.Eng
abbrev TyCl : Ty := .pair .str (.pair .str (.pair .str (.pair .str (.pair (.int .i64) (.pair (.slice .str) .str)))))
theorem up_cls {l : List Cl} (h : Up.InD T 6 22 (.slice TyCl) l) : l.length ≤ 100000000000 ∧ (∀ c ∈ l, szR c) ∧ ∀ c ∈ l, c.2.2.2.2.2.1.length ≤ 1000000000000 := by
 have hu : Up.upBytes = 4294967296 := rfl
 have g0 : List.length l * 112 ≤ Up.upBytes := h.1
 have g1 : ∀ c ∈ l, szR c ∧ c.2.2.2.2.2.1.length ≤ 100000000000 := fun c hc => by
  have h := h.2 c hc
  have g1 : c.2.1.size ≤ Up.upBytes := h.2.1
  have g2 : List.length c.2.2.2.2.2.1 * 16 ≤ Up.upBytes := h.2.2.2.2.2.1.1
  exact ⟨Nat.le_trans g1 (by rw [hu]; decide), by omega⟩
 exact ⟨by omega, fun c hc => (g1 c hc).1, fun c hc => Nat.le_trans (g1 c hc).2 (by decide)⟩
end Go.Proofs.YtahlodpolggeiaaGreatDoor
set_option linter.unusedVariables false
set_option linter.unusedSimpArgs false
namespace Go.Proofs.YtahlodpolggeiaaGreatDoor
open Go Go.Lib Go.Proofs.YtahlodpolggeiaaGreatDoor.Eng
abbrev Au : Type := Int × (ByteArray × Int)
def hx (d : Nat) : UInt8 := bt hexCs (d : Int)
theorem hx_all : ∀ d : Nat, d < 16 → (decide (((UInt8.toNat (hx d) : Nat) : Int) = (95 : Int)) = false ∧ decide ((48 : Int) ≤ ((UInt8.toNat (hx d) : Nat) : Int)) = true) ∧ ((decide (((UInt8.toNat (hx d) : Nat) : Int) ≤ (57 : Int)) = true ∧ ((UInt8.toNat (UInt8.ofInt (((UInt8.toNat (hx d) : Nat) : Int) - (48 : Int))) : Nat) : Int) = (d : Int)) ∨ (decide (((UInt8.toNat (hx d) : Nat) : Int) ≤ (57 : Int)) = false ∧ (UInt8.ofInt (IntKind.u8.wrap ((BitVec.toNat (BitVec.ofInt (IntKind.bits .u8) ((UInt8.toNat (hx d) : Nat) : Int) ||| BitVec.ofInt (IntKind.bits .u8) (32 : Int)) : Nat) : Int))) = hx d ∧ decide ((97 : Int) ≤ ((UInt8.toNat (hx d) : Nat) : Int)) = true ∧ decide (((UInt8.toNat (hx d) : Nat) : Int) ≤ (122 : Int)) = true ∧ ((UInt8.toNat (UInt8.ofInt (((UInt8.toNat (UInt8.ofInt (((UInt8.toNat (hx d) : Nat) : Int) - (97 : Int))) : Nat) : Int) + (10 : Int))) : Nat) : Int) = (d : Int))) := by decide +kernel
theorem b16 : ((UInt8.toNat (UInt8.ofInt (IntKind.u8.wrap (16 : Int))) : Nat) : Int) = 16 := by decide
theorem hexStep {l : List UInt8} {k : Nat} (hk : k < l.length) (hl : l.length ≤ BIG) {d : Nat} (hd : d < 16) (he : l[k] = hx d) {n : Int} (h0 : 0 ≤ n) (h1 : n < 1152921504606846976) (us : Bool) :
  Q4.s0 16 false 1152921504606846976 18446744073709551615 l (l.length : Int) us n (k : Int) = some (.inl (us, n * 16 + d, ((k + 1 : Nat) : Int))) := by
 have hB : BIG = 140737488355328 := rfl
 obtain ⟨⟨a1, a2⟩, a3⟩ := hx_all d hd
 have e : ((k : Int) + 1) = ((k + 1 : Nat) : Int) := by omega
 have w1 : IntKind.u64.wrap (16 : Int) = 16 := by decide
 have w2 : IntKind.u64.wrap (n * 16) = n * 16 := wrapU_in (by omega) (by omega)
 have w3 : IntKind.u64.wrap (d : Int) = d := wrapU_in (by omega) (by omega)
 have w4 : IntKind.u64.wrap (n * 16 + d) = n * 16 + d := wrapU_in (by omega) (by omega)
 have c1 : decide ((16 : Int) ≤ (d : Int)) = false := decide_eq_false (by omega)
 have c2 : decide ((1152921504606846976 : Int) ≤ n) = false := decide_eq_false (by omega)
 have c3 : decide (n * 16 + d < n * 16) = false := decide_eq_false (by omega)
 have c4 : decide ((18446744073709551615 : Int) < n * 16 + d) = false := decide_eq_false (by omega)
 have c0 : decide ((k : Int) < (l.length : Int)) = true := decide_eq_true (by omega)
 unfold Q4.s0
 rw [c0, cb_t, ck_pos ⟨by omega, by omega⟩, rd_lt hk, he]
 simp only [a1, a2, cb_t, cb_f]
 rcases a3 with ⟨a3, a4⟩ | ⟨a3, a4, a5, a6, a7⟩
 ·simp only [a3, cb_t, a4, b16, c1, cb_f, c2, w1, w2, w3, w4, c3, c4]
  rw [ck_in (by omega) (by omega), e]
 ·have hlow : Qe.f (hx d) = some (hx d) := by
   unfold Qe.f
   simp only [a4]
  simp only [a3, cb_f, hlow, ob_s, a5, cb_t, a6, a7, b16, c1, c2, w1, w2, w3, w4, c3, c4]
  rw [ck_in (by omega) (by omega), e]
theorem hexLoop {l : List UInt8} (hl : l.length ≤ 8) (hh : ∀ c ∈ l, ∃ d, d < 16 ∧ c = hx d) : ∀ (m k : Nat) (n : Int), l.length - k = m → 0 ≤ n → n < ((16 ^ k : Nat) : Int) → k ≤ l.length → ∃ N : Int, Q4.l0 16 false 1152921504606846976 18446744073709551615 l (l.length : Int) false n (k : Int) = some (false, N) ∧ 0 ≤ N ∧ N < 4294967296 := by
 have hB : BIG = 140737488355328 := rfl
 intro m
 induction m with
 | zero =>
  intro k n hm h0 h1 hk
  have hp : 16 ^ k ≤ 16 ^ 8 := Nat.pow_le_pow_right (by decide) (by omega)
  have hp8 : 16 ^ 8 = 4294967296 := by decide
  refine ⟨n, loopX_done ?_, h0, by omega⟩
  simp only [Q4.s0, cb_dec]
  rw [if_neg (by omega)]
 | succ m ih =>
  intro k n hm h0 h1 hkl
  have hk : k < l.length := by omega
  obtain ⟨d, hd, he⟩ := hh l[k] (List.getElem_mem hk)
  have hp : 16 ^ k ≤ 16 ^ 7 := Nat.pow_le_pow_right (by decide) (by omega)
  have hp7 : 16 ^ 7 = 268435456 := by decide
  have hs : 16 ^ (k + 1) = 16 ^ k * 16 := Nat.pow_succ ..
  obtain ⟨N, hN, hN2⟩ := ih (k + 1) (n * 16 + d) (by omega) (by omega) (by rw [hs]; omega) (by omega)
  exact ⟨N, (loopX_next (hexStep hk (by omega) hd he h0 (by omega) false)).trans hN, hN2⟩
theorem maxU : IntKind.u64.wrap (IntKind.u64.wrap ((1 : Int) * 2 ^ min (Int.toNat (IntKind.u64.wrap 64)) (IntKind.bits .u64)) - (1 : Int)) = 18446744073709551615 := by decide
theorem parse_head (s : ByteArray) : Q4.f s 16 64 = cb (decide (s = bs_)) none (ck (0 ≤ (IntKind.u64.wrap (64 : Int))) (let y115 : Int := (IntKind.u64.wrap ((1 : Int) * 2 ^ min (Int.toNat (IntKind.u64.wrap 64)) (IntKind.bits .u64))); (let y116 : Int := (IntKind.u64.wrap (y115 - (1 : Int))); (let y117 : (List UInt8) := (Array.toList (ByteArray.data s)); (let y118 : Int := ((List.length y117 : Nat) : Int); (ob (Q4.l0 16 false (1152921504606846976 : Int) y116 y117 y118 false (0 : Int) (0 : Int)) fun r119 => (cb r119.1 (ob (Q7.f s) fun r120 => (cb (!r120) none (some (r119.2, ())))) (some (r119.2, ()))))))))) := by kernel_rfl
theorem parse_hex0 {s : ByteArray} (h8 : s.size = 8) (hh : ∀ c ∈ s.data.toList, ∃ d, d < 16 ∧ c = hx d) : ∃ N : Int, Q4.f s 16 64 = some (N, ()) ∧ 0 ≤ N ∧ N < 4294967296 := by
 have hl : s.data.toList.length = 8 := by rw [← size_list, h8]
 obtain ⟨N, hN, hN2⟩ := hexLoop (l := s.data.toList) (by omega) hh _ 0 0 rfl (by decide) (by decide) (Nat.zero_le _)
 refine ⟨N, ?_, hN2⟩
 have hne : s ≠ bs_ := fun e => by rw [e] at h8; revert h8; decide
 rw [parse_head, decide_eq_false hne, cb_f, ck_pos (by decide)]
 simp only [maxU]
 rw [show ((0 : Nat) : Int) = 0 from rfl] at hN
 rw [hN]
 rfl
theorem digs_hx (R : Nat) : ∀ k, ∀ c ∈ digs R k, ∃ d, d < 16 ∧ c = hx d
 | 0, c, h => by cases h
 | k + 1, c, h => by
  rcases List.mem_cons.1 h with rfl | h
  ·exact ⟨_, Nat.mod_lt _ (by decide), rfl⟩
  ·exact digs_hx R k c h
end Go.Proofs.YtahlodpolggeiaaGreatDoor
set_option linter.unusedVariables false
set_option linter.unusedSimpArgs false
namespace Go.Proofs.YtahlodpolggeiaaGreatDoor
open Go Go.Lib Go.Proofs.YtahlodpolggeiaaGreatDoor.Eng
structure OkA (l : List Cl) (m : List Au) : Prop where
 log : OkL l
 len : m.length ≤ 1000
 num : ∀ a ∈ m, 0 ≤ a.1 ∧ a.1 < (l.length : Int)
theorem audLoop {l : List Cl} (hl : l.length ≤ 1000) {m : List Au} (hm : m.length ≤ 1000) : ∀ (n k : Nat), m.length - k = n → ∃ r, Qd.l0 l m m (m.length : Int) (k : Int) = some r ∧ ((r = .inr () ∧ ∀ j : Nat, ∀ h : j < m.length, k ≤ j → 0 ≤ m[j].1 ∧ m[j].1 < (l.length : Int)) ∨ ∃ f : Int, f ≠ 0 ∧ r = .inl f) := by
 intro n
 induction n with
 | zero =>
  intro k hk
  refine ⟨.inr (), loopX_done ?_, .inl ⟨rfl, fun j hj h => by omega⟩⟩
  simp only [Qd.s0, cb_dec]
  rw [if_neg (by omega)]
 | succ n ih =>
  intro k hk
  have hlt : k < m.length := by omega
  have e : ((k : Int) + 1) = ((k + 1 : Nat) : Int) := by omega
  obtain ⟨r, h1, h2⟩ := ih (k + 1) (by omega)
  have key : ∀ res, Qd.s0 l m m (m.length : Int) (k : Int) = some res → (∃ f : Int, f ≠ 0 ∧ res = .inr (.inl f)) ∨ (res = .inl ((k + 1 : Nat) : Int) ∧ 0 ≤ m[k].1 ∧ m[k].1 < (l.length : Int)) → ∃ r, Qd.l0 l m m (m.length : Int) (k : Int) = some r ∧ ((r = .inr () ∧ ∀ j : Nat, ∀ h : j < m.length, k ≤ j → 0 ≤ m[j].1 ∧ m[j].1 < (l.length : Int)) ∨ ∃ f : Int, f ≠ 0 ∧ r = .inl f) := by
   intro res hs hr
   rcases hr with ⟨f, h0, rfl⟩ | ⟨rfl, h3, h4⟩
   ·exact ⟨.inl f, loopX_done hs, .inr ⟨f, h0, rfl⟩⟩
   ·refine ⟨r, (loopX_next hs).trans h1, ?_⟩
    rcases h2 with ⟨h2, h5⟩ | h2
    ·refine .inl ⟨h2, fun j hj hkj => ?_⟩
     rcases Nat.eq_or_lt_of_le hkj with rfl | h6
     ·exact ⟨h3, h4⟩
     ·exact h5 j hj h6
    ·exact .inr h2
  have hs : ∃ res, Qd.s0 l m m (m.length : Int) (k : Int) = some res ∧ ((∃ f : Int, f ≠ 0 ∧ res = .inr (.inl f)) ∨ (res = .inl ((k + 1 : Nat) : Int) ∧ 0 ≤ m[k].1 ∧ m[k].1 < (l.length : Int))) := by
   unfold Qd.s0
   rw [decide_eq_true (by omega), cb_t, ck_pos ⟨by omega, by omega⟩, rd_lt hlt]
   simp only [within_eq, isDigest_eq, ob_s]
   rw [ck_in (by omega) (by omega)]
   by_cases hn : 0 ≤ m[k].1 ∧ m[k].1 ≤ (l.length : Int) - 1
   ·rw [decide_eq_true hn]
    simp only [Bool.not_true, cb_f]
    cases hd : digB m[k].2.1 with
    | false => exact ⟨_, rfl, .inl ⟨3, by decide, rfl⟩⟩
    | true =>
     simp only [Bool.not_true, cb_f]
     rw [ck_pos ⟨hn.1, by omega⟩]
     by_cases ha : (rd C0 l m[k].1).2.2.2.2.1 ≤ m[k].2.2 ∧ m[k].2.2 ≤ 1000000000
     ·rw [decide_eq_true ha]
      simp only [Bool.not_true, cb_f, cb_dec]
      by_cases h0 : 0 < k
      ·have e1 : (k : Int) - 1 = ((k - 1 : Nat) : Int) := by omega
       rw [if_pos (by omega), ck_in (by omega) (by omega), e1, ck_pos ⟨by omega, by omega⟩, ck_in (by omega) (by omega), e]
       split
       ·exact ⟨_, rfl, .inl ⟨8, by decide, rfl⟩⟩
       ·exact ⟨_, rfl, .inr ⟨rfl, hn.1, by omega⟩⟩
      ·rw [if_neg (by omega), ck_in (by omega) (by omega), e]
       exact ⟨_, rfl, .inr ⟨rfl, hn.1, by omega⟩⟩
     ·rw [decide_eq_false ha]
      exact ⟨_, rfl, .inl ⟨1, by decide, rfl⟩⟩
   ·rw [decide_eq_false hn]
    exact ⟨_, rfl, .inl ⟨9, by decide, rfl⟩⟩
  obtain ⟨res, hs, hr⟩ := hs
  exact key res hs hr
theorem checkAud {l : List Cl} (hs : ∀ c ∈ l, szC c) (m : List Au) : ∃ f : Int, Qd.f l m = some f ∧ (f = 0 → OkA l m) := by
 obtain ⟨f, h1, h2⟩ := checkLog hs
 unfold Qd.f
 rw [h1, ob_s]
 by_cases hf : f = 0
 ·rw [decide_eq_true hf]
  simp only [Bool.not_true, cb_f, cb_dec]
  have hk := h2 hf
  by_cases h : 1000 < m.length
  ·rw [if_pos (by omega)]; exact ⟨2, rfl, fun h => by cases h⟩
  ·rw [if_neg (by omega)]
   obtain ⟨r, h3, h4⟩ := audLoop hk.len (m := m) (by omega) _ 0 rfl
   rw [show ((0 : Nat) : Int) = 0 from rfl] at h3
   rw [h3, ob_s]
   rcases h4 with ⟨rfl, h5⟩ | ⟨f', hf', rfl⟩
   ·refine ⟨0, rfl, fun _ => ⟨hk, by omega, fun a ha => ?_⟩⟩
    obtain ⟨j, hj, rfl⟩ := List.getElem_of_mem ha
    exact h5 j hj (Nat.zero_le _)
   ·exact ⟨f', rfl, fun h => absurd h hf'⟩
 ·rw [decide_eq_false hf]
  exact ⟨f, rfl, fun h => absurd h hf⟩
def same (l : List Cl) (x : Au) : Bool := decide (x.2.1 = (rd C0 l x.1).2.2.1)
abbrev Fc : Type := List Bool × (List Bool × List (ByteArray × Bool))
def fcs (l : List Cl) : List Au → Fc → Fc
 | [], t => t
 | x :: r, t => fcs l r (t.1.set x.1.toNat true, (match same l x with | true => t.2.1 | false => t.2.1.set x.1.toNat true), (match same l x with | true => t.2.2 | false => mset (rd C0 l x.1).2.2.2.1 true t.2.2))
theorem fcLoop {l : List Cl} {m : List Au} (hm : m.length ≤ 1000) (hn : ∀ a ∈ m, 0 ≤ a.1 ∧ a.1 < (l.length : Int)) : ∀ (n k : Nat) (a w : List Bool) (s : List (ByteArray × Bool)), m.length - k = n → a.length = l.length → w.length = l.length → Qr.l0 l m (m.length : Int) (k : Int) [] [] [] a w s = some ([], [], [], fcs l (m.drop k) (a, w, s)) := by
 intro n
 induction n with
 | zero =>
  intro k a w s hk ha hw
  refine loopX_done ?_
  simp only [Qr.s0, cb_dec]
  rw [if_neg (by omega), List.drop_eq_nil_of_le (by omega)]
  rfl
 | succ n ih =>
  intro k a w s hk ha hw
  have hlt : k < m.length := by omega
  obtain ⟨h1, h2⟩ := hn _ (List.getElem_mem hlt)
  have e : ((k : Int) + 1) = ((k + 1 : Nat) : Int) := by omega
  rw [List.drop_eq_getElem_cons hlt]
  unfold fcs
  cases hq : same l m[k] with
  | true =>
   have hq' : m[k].2.1 = (rd C0 l m[k].1).2.2.1 := of_decide_eq_true hq
   refine (loopX_next (x' := (((k + 1 : Nat) : Int), [], [], [], a.set m[k].1.toNat true, w, s)) ?_).trans (ih (k + 1) _ _ _ (by omega) (by simp [ha]) hw)
   simp only [Qr.s0]
   rw [decide_eq_true (by omega), cb_t, ck_pos ⟨by omega, by omega⟩, rd_lt hlt]
   rw [ck_pos ⟨h1, by omega⟩, ck_pos (by omega), ck_pos ⟨h1, h2⟩, decide_eq_true hq']
   simp only [Bool.not_true, cb_f]
   rw [ck_in (by omega) (by omega), e]
  | false =>
   have hq' : ¬ m[k].2.1 = (rd C0 l m[k].1).2.2.1 := of_decide_eq_false hq
   refine (loopX_next (x' := (((k + 1 : Nat) : Int), [], [], [], a.set m[k].1.toNat true, w.set m[k].1.toNat true, mset (rd C0 l m[k].1).2.2.2.1 true s)) ?_).trans (ih (k + 1) _ _ _ (by omega) (by simp [ha]) (by simp [hw]))
   simp only [Qr.s0]
   rw [decide_eq_true (by omega), cb_t, ck_pos ⟨by omega, by omega⟩, rd_lt hlt]
   rw [ck_pos ⟨h1, by omega⟩, ck_pos (by omega), ck_pos ⟨h1, h2⟩, decide_eq_false hq']
   simp only [Bool.not_false, cb_t]
   rw [ck_pos ⟨h1, by omega⟩, ck_pos (by omega), ck_pos ⟨h1, h2⟩, ck_in (by omega) (by omega), e]
theorem facts_eq {l : List Cl} {m : List Au} (hA : OkA l m) : Qr.f l m = some (fcs l m (List.replicate l.length false, List.replicate l.length false, [])) := by
 have hl := hA.log.len
 have hck : ∀ a : Option Fc, ck (0 ≤ ((List.length l : Nat) : Int) ∧ ((List.length l : Nat) : Int) * (1 : Int) ≤ 140737488355328) a = a := fun a => ck_pos ⟨by omega, by omega⟩
 have h := fcLoop (l := l) hA.len hA.num _ 0 (List.replicate l.length false) (List.replicate l.length false) [] rfl (by simp) (by simp)
 rw [show ((0 : Nat) : Int) = 0 from rfl, List.drop_zero] at h
 unfold Qr.f
 simp only [mix_eq, hck, Int.toNat_natCast, h, ob_s, both_same]
theorem fcs_len (l : List Cl) : ∀ (m : List Au) (t : Fc), (fcs l m t).1.length = t.1.length ∧ (fcs l m t).2.1.length = t.2.1.length
 | [], t => ⟨rfl, rfl⟩
 | x :: r, t => by
  unfold fcs
  have h := fcs_len l r (t.1.set x.1.toNat true, (match same l x with | true => t.2.1 | false => t.2.1.set x.1.toNat true), (match same l x with | true => t.2.2 | false => mset (rd C0 l x.1).2.2.2.1 true t.2.2))
  refine ⟨h.1.trans (by simp), h.2.trans ?_⟩
  cases same l x <;> simp
def nums (k : Nat) : List Bool → List Int
 | [] => []
 | b :: r => match b with | true => (k : Int) :: nums (k + 1) r | false => nums (k + 1) r
theorem nums_len : ∀ (l : List Bool) (k : Nat), (nums k l).length ≤ l.length
 | [], _ => Nat.le_refl _
 | b :: r, k => by
  have := nums_len r (k + 1)
  cases b <;> simp [nums] <;> omega
theorem numLoop {l : List Bool} (hl : l.length ≤ 1000) : ∀ (n k : Nat) (out : List Int), l.length - k = n → out.length ≤ k → Qv.l0 l (l.length : Int) (k : Int) out = some (out ++ nums k (l.drop k)) := by
 intro n
 induction n with
 | zero =>
  intro k out hk ho
  refine loopX_done ?_
  simp only [Qv.s0, cb_dec]
  rw [if_neg (by omega), List.drop_eq_nil_of_le (by omega)]
  simp [nums]
 | succ n ih =>
  intro k out hk ho
  have hlt : k < l.length := by omega
  have e : ((k : Int) + 1) = ((k + 1 : Nat) : Int) := by omega
  rw [List.drop_eq_getElem_cons hlt]
  cases hb : l[k] with
  | true =>
   have h1 := ih (k + 1) (out ++ [(k : Int)]) (by omega) (by simp; omega)
   refine (loopX_next (x' := (((k + 1 : Nat) : Int), out ++ [(k : Int)])) ?_).trans (h1.trans (by simp [nums]))
   simp only [Qv.s0]
   rw [decide_eq_true (by omega), cb_t, ck_pos ⟨by omega, by omega⟩, rd_lt hlt, hb, cb_t, ck_pos (by simp; omega), ck_in (by omega) (by omega), e]
  | false =>
   have h1 := ih (k + 1) out (by omega) (by omega)
   refine (loopX_next (x' := (((k + 1 : Nat) : Int), out)) ?_).trans (h1.trans (by simp [nums]))
   simp only [Qv.s0]
   rw [decide_eq_true (by omega), cb_t, ck_pos ⟨by omega, by omega⟩, rd_lt hlt, hb, cb_f, ck_in (by omega) (by omega), e]
theorem numbers_eq {l : List Bool} (hl : l.length ≤ 1000) : Qv.f l = some (nums 0 l) := by
 have h := numLoop hl _ 0 [] rfl (by simp)
 rw [show ((0 : Nat) : Int) = 0 from rfl] at h
 unfold Qv.f
 simp only [h, ob_s, List.drop_zero, List.nil_append]
end Go.Proofs.YtahlodpolggeiaaGreatDoor
set_option linter.unusedVariables false
set_option linter.unusedSimpArgs false
namespace Go.Proofs.YtahlodpolggeiaaGreatDoor
open Go Go.Lib Go.Proofs.YtahlodpolggeiaaGreatDoor.Eng
theorem hx_sign : ∀ d : Nat, d < 16 → decide (((UInt8.toNat (hx d) : Nat) : Int) = (43 : Int)) = false ∧ decide (((UInt8.toNat (hx d) : Nat) : Int) = (45 : Int)) = false := by decide +kernel
theorem wrapI_in {n : Int} (h0 : 0 ≤ n) (h1 : n < 4294967296) : IntKind.i64.wrap n = n := IntWalk.i64_in n (by omega)
theorem parse_int {s : ByteArray} (h8 : s.size = 8) (hh : ∀ c ∈ s.data.toList, ∃ d, d < 16 ∧ c = hx d) {N : Int} (hN : Q4.f s 16 64 = some (N, ())) (h0 : 0 ≤ N) (h1 : N < 4294967296) : Q1z.f s 16 64 = some (N, ()) := by
 have hne : s ≠ bs_ := fun e => by rw [e] at h8; revert h8; decide
 have hb : ∃ d, d < 16 ∧ bt s (0 : Int) = hx d := by
  have hl : 0 < s.data.toList.length := by rw [← size_list, h8]; decide
  obtain ⟨d, hd, he⟩ := hh s.data.toList[0] (List.getElem_mem hl)
  refine ⟨d, hd, ?_⟩
  rw [← he]
  have hs : 0 < s.size := by omega
  show (s[(0 : Int).toNat]?).getD 0 = _
  rw [show (0 : Int).toNat = 0 from rfl, getElem?_pos s 0 hs]
  rfl
 obtain ⟨d, hd, he⟩ := hb
 obtain ⟨q1, q2⟩ := hx_sign d hd
 have m1 : IntKind.u64.wrap ((1 : Int) * 2 ^ min (Int.toNat (IntKind.u64.wrap ((64 : Int) - (1 : Int)))) (IntKind.bits .u64)) = 9223372036854775808 := by decide
 have q3 : decide ((9223372036854775808 : Int) ≤ N) = false := decide_eq_false (by omega)
 have q4 : decide ((64 : Int) = (0 : Int)) = false := by decide
 unfold Q1z.f Q19.f
 rw [decide_eq_false hne, cb_f, ck_pos ⟨by decide, by omega⟩, he, q1, cb_f, q2, cb_f, hN, ob_s, q4, cb_f, ck_in (by decide) (by decide), ck_pos (by decide)]
 simp only [m1, q3, cb_f, wrapI_in h0 h1, ob_s]
theorem lot_eq {round i every : Int} {key : ByteArray} (h0 : 0 ≤ round) (h1 : round ≤ 1000000000) (h2 : 0 ≤ i) (h3 : i ≤ 1000) (hk : key.size ≤ 1000) (he : every ≠ 0) : ∃ v : Int, Q2s.f round i key every = some v ∧ Q2t.f key i round every = some v := by
 have hB : BIG = 140737488355328 := rfl
 have s1 := itoa_size (n := round) (by omega) (by omega)
 have s2 := itoa_size (n := i) (by omega) (by omega)
 have s3 : Q2y.size = 1 := by decide
 have hlen : ((((itoaB round ++ Q2y) ++ itoaB i) ++ Q2y) ++ key).data.toList.length ≤ BIG := by
  rw [← size_list]; simp only [ByteArray.size_append]; omega
 have e8 : Int.toNat (8 : Int) = 8 := rfl
 have g8 : ((dgB ((((itoaB round ++ Q2y) ++ itoaB i) ++ Q2y) ++ key).data.toList).extract 0 8).size = 8 := by rw [ByteArray.size_extract, dgB_size]; rfl
 have gh : ∀ c ∈ ((dgB ((((itoaB round ++ Q2y) ++ itoaB i) ++ Q2y) ++ key).data.toList).extract 0 8).data.toList, ∃ d, d < 16 ∧ c = hx d := fun c hc => by
  rw [ByteArray.data_extract, Array.toList_extract, List.extract_eq_take_drop, List.drop_zero] at hc
  exact digs_hx _ 16 c (List.mem_of_mem_take hc)
 obtain ⟨N, hN, hN0, hN1⟩ := parse_hex0 g8 gh
 have hI := parse_int g8 gh hN hN0 hN1
 refine ⟨N.tmod every, ?_, ?_⟩
 ·unfold Q2s.f Q2h.f
  rw [ck_pos ⟨by omega, by omega⟩, ck_pos ⟨by omega, by omega⟩]
  simp only [ob_s]
  rw [ck_pos (by omega), ck_pos (by simp only [ByteArray.size_append]; omega), ck_pos (by simp only [ByteArray.size_append]; omega), ck_pos (by simp only [ByteArray.size_append]; omega)]
  rw [digest_eq hlen, ob_s, dgB_size, ck_pos (by decide)]
  simp only [e8]
  have hU : Q1x.f ((dgB ((((itoaB round ++ Q2y) ++ itoaB i) ++ Q2y) ++ key).data.toList).extract 0 8) 16 64 = some (N, ()) := by
   unfold Q1x.f
   rw [hN]; rfl
  rw [hU, ob_s, ck_pos he]
  simp only [wrapI_in hN0 hN1]
 ·unfold Q2t.f Q2h.f
  rw [ck_pos ⟨by omega, by omega⟩, ck_pos ⟨by omega, by omega⟩]
  simp only [ob_s]
  rw [ck_pos (by omega), ck_pos (by simp only [ByteArray.size_append]; omega), ck_pos (by simp only [ByteArray.size_append]; omega), ck_pos (by simp only [ByteArray.size_append]; omega)]
  have hD : Q2d.f ((((itoaB round ++ Q2y) ++ itoaB i) ++ Q2y) ++ key) = some (dgB ((((itoaB round ++ Q2y) ++ itoaB i) ++ Q2y) ++ key).data.toList) := by
   unfold Q2d.f
   simp only [digestRef_eq hlen, ob_s]
  rw [hD, ob_s, dgB_size, ck_pos (by decide)]
  simp only [e8]
  rw [hI, ob_s, ck_pos he]
theorem audRef {l : List Cl} (hs : ∀ c ∈ l, szR c) (m : List Au) : Qd.f l m = Qh.f l m := by
 unfold Qd.f Qh.f
 rw [checkLog_ref hs]
 rfl
theorem set_same {w : List Bool} {i : Nat} {b : Bool} (h : i < w.length) (hb : w[i] = b) : w.set i b = w := by
 subst hb
 exact List.set_getElem_self h
theorem fcs_cons (l : List Cl) (x : Au) (r : List Au) (t : Fc) : fcs l (x :: r) t = fcs l r (t.1.set x.1.toNat true, (match same l x with | true => t.2.1 | false => t.2.1.set x.1.toNat true), (match same l x with | true => t.2.2 | false => mset (rd C0 l x.1).2.2.2.1 true t.2.2)) := rfl
theorem stLoop0 {l : List Cl} {m : List Au} (hm : m.length ≤ 1000) (hn : ∀ a ∈ m, 0 ≤ a.1 ∧ a.1 < (l.length : Int)) (t : List Bool) (s : List (ByteArray × Bool)) : ∀ (n k : Nat) (a w : List Bool) (s : List (ByteArray × Bool)), m.length - k = n → a.length = l.length → w.length = l.length → Q1.l0 l m (m.length : Int) (k : Int) a w t = some ((fcs l (m.drop k) (a, w, s)).1, (fcs l (m.drop k) (a, w, s)).2.1, t) := by
 intro n
 induction n with
 | zero =>
  intro k a w s hk ha hw
  refine loopX_done ?_
  simp only [Q1.s0, cb_dec]
  rw [if_neg (by omega), List.drop_eq_nil_of_le (by omega)]
  rfl
 | succ n ih =>
  intro k a w s hk ha hw
  have hlt : k < m.length := by omega
  obtain ⟨h1, h2⟩ := hn _ (List.getElem_mem hlt)
  have e : ((k : Int) + 1) = ((k + 1 : Nat) : Int) := by omega
  have hi : m[k].1.toNat < w.length := by omega
  rw [List.drop_eq_getElem_cons hlt, fcs_cons]
  have hw' : (match same l m[k] with | true => w | false => w.set m[k].1.toNat true).length = l.length := by cases same l m[k] <;> simp [hw]
  have step : Q1.s0 l m (m.length : Int) (k : Int) a w t = some (.inl (((k + 1 : Nat) : Int), a.set m[k].1.toNat true, (match same l m[k] with | true => w | false => w.set m[k].1.toNat true), t)) := by
   simp only [Q1.s0]
   rw [decide_eq_true (by omega), cb_t, ck_pos ⟨by omega, by omega⟩, rd_lt hlt, ck_pos ⟨h1, by omega⟩, ck_pos (by omega), ck_pos ⟨h1, by omega⟩, ck_pos hi]
   have hg : List.getD w m[k].1.toNat false = w[m[k].1.toNat] := by simp [List.getD, List.getElem?_eq_getElem hi]
   rw [hg]
   cases hb : w[m[k].1.toNat] with
   | true =>
    rw [cb_t, ck_pos ⟨h1, by omega⟩, ck_pos hi, ck_in (by omega) (by omega), e, set_same hi hb]
    cases same l m[k] <;> rfl
   | false =>
    rw [cb_f, ck_pos ⟨h1, h2⟩, ck_pos ⟨h1, by omega⟩, ck_pos hi, ck_in (by omega) (by omega), e]
    cases hq : same l m[k] with
    | true =>
     have hq' : m[k].2.1 = (rd C0 l m[k].1).2.2.1 := of_decide_eq_true hq
     rw [decide_eq_true hq']
     simp only [Bool.not_true]
     rw [set_same hi hb]
    | false =>
     have hq' : ¬ m[k].2.1 = (rd C0 l m[k].1).2.2.1 := of_decide_eq_false hq
     rw [decide_eq_false hq']
     rfl
  refine (loopX_next step).trans ((ih (k + 1) _ _ (match same l m[k] with | true => s | false => mset (rd C0 l m[k].1).2.2.2.1 true s) (by omega) (by simp [ha]) hw').trans ?_)
  rfl
def wrs : List Cl → List Bool → List ByteArray
 | c :: r, b :: q => match b with | true => c.2.2.2.1 :: wrs r q | false => wrs r q
 | _, _ => []
theorem stLoop1 {l : List Cl} (hl : l.length ≤ 1000) {a w t : List Bool} (hw : w.length = l.length) (o5 : List ByteArray) : ∀ (n k : Nat) (o : List ByteArray), l.length - k = n → o.length ≤ k → Q1.l1 l (l.length : Int) (k : Int) a w t o5 o = some (a, w, t, o5, o ++ wrs (l.drop k) (w.drop k)) := by
 intro n
 induction n with
 | zero =>
  intro k o hk ho
  refine loopX_done ?_
  simp only [Q1.s1, cb_dec]
  rw [if_neg (by omega), List.drop_eq_nil_of_le (by omega)]
  simp [wrs]
 | succ n ih =>
  intro k o hk ho
  have hlt : k < l.length := by omega
  have hltw : k < w.length := by omega
  have e : ((k : Int) + 1) = ((k + 1 : Nat) : Int) := by omega
  have hg : List.getD w k false = w[k] := by simp [List.getD, List.getElem?_eq_getElem hltw]
  rw [List.drop_eq_getElem_cons hlt, List.drop_eq_getElem_cons hltw]
  cases hb : w[k] with
  | true =>
   refine (loopX_next (x' := (((k + 1 : Nat) : Int), a, w, t, o5, o ++ [l[k].2.2.2.1])) ?_).trans ((ih (k + 1) _ (by omega) (by simp; omega)).trans (by simp [wrs]))
   simp only [Q1.s1]
   rw [decide_eq_true (by omega), cb_t, ck_pos ⟨by omega, by omega⟩, rd_lt hlt, ck_pos ⟨by omega, by omega⟩, Int.toNat_natCast, ck_pos hltw, hg, hb, cb_t, ck_pos (by simp; omega), ck_in (by omega) (by omega), e]
  | false =>
   refine (loopX_next (x' := (((k + 1 : Nat) : Int), a, w, t, o5, o)) ?_).trans ((ih (k + 1) _ (by omega) (by omega)).trans (by simp [wrs]))
   simp only [Q1.s1]
   rw [decide_eq_true (by omega), cb_t, ck_pos ⟨by omega, by omega⟩, rd_lt hlt, ck_pos ⟨by omega, by omega⟩, Int.toNat_natCast, ck_pos hltw, hg, hb, cb_f, ck_in (by omega) (by omega), e]
abbrev Sta : Type := List Bool × (List Bool × (List Bool × List ByteArray))
theorem dbLoop0 {l : List Cl} (hl : l.length ≤ 1000) {S : Sta} (hS : S.2.1.length = l.length) {i : Nat} (hi : i < l.length) : ∀ (n k : Nat) (x : Int), l.length - k = n → -1 ≤ x → x < (l.length : Int) → ∃ r : Int, Q5.l0 l (i : Int) S l (l.length : Int) x (k : Int) = some r ∧ -1 ≤ r ∧ r < (l.length : Int) := by
 intro n
 induction n with
 | zero =>
  intro k x hk h0 h1
  refine ⟨x, loopX_done ?_, h0, h1⟩
  simp only [Q5.s0, cb_dec]
  rw [if_neg (by omega)]
 | succ n ih =>
  intro k x hk h0 h1
  have hlt : k < l.length := by omega
  have e : ((k : Int) + 1) = ((k + 1 : Nat) : Int) := by omega
  obtain ⟨r, h2, h3⟩ := ih (k + 1) x (by omega) h0 h1
  have key : Q5.s0 l (i : Int) S l (l.length : Int) x (k : Int) = some (.inr (k : Int)) ∨ Q5.s0 l (i : Int) S l (l.length : Int) x (k : Int) = some (.inl (x, ((k + 1 : Nat) : Int))) := by
   simp only [Q5.s0]
   rw [decide_eq_true (by omega), cb_t, ck_pos ⟨by omega, by omega⟩, ck_pos ⟨by omega, by omega⟩, ck_pos ⟨by omega, by omega⟩, ck_in (by omega) (by omega), e, cb_dec]
   split
   ·cases rd false S.2.1 (k : Int)
    ·exact .inr rfl
    ·exact .inl rfl
   ·exact .inr rfl
  rcases key with h | h
  ·exact ⟨(k : Int), loopX_done h, by omega, by omega⟩
  ·exact ⟨r, (loopX_next h).trans h2, h3⟩
theorem dbLoop1 {l : List Cl} (hl : l.length ≤ 1000) {S : Sta} (hS1 : S.1.length = l.length) (hS : S.2.1.length = l.length) {i : Nat} (hi : i < l.length) {r : Int} (hr : r < (l.length : Int)) : ∀ (n k : Nat) (x : Int), l.length - k = n → ∃ q : Int, Q5.l1 l (i : Int) S r x (k : Int) = some q := by
 intro n
 induction n with
 | zero =>
  intro k x hk
  refine ⟨x, loopX_done ?_⟩
  simp only [Q5.s1, cb_dec]
  rw [if_neg (by omega)]
 | succ n ih =>
  intro k x hk
  by_cases hkr : (k : Int) < r
  ·have hlt : k < l.length := by omega
   have e : ((k : Int) + 1) = ((k + 1 : Nat) : Int) := by omega
   have key : ∃ y : Int, Q5.s1 l (i : Int) S r x (k : Int) = some (.inl (y, ((k + 1 : Nat) : Int))) := by
    simp only [Q5.s1]
    rw [decide_eq_true hkr, cb_t, ck_pos ⟨by omega, by omega⟩, ck_pos ⟨by omega, by omega⟩, ck_pos ⟨by omega, by omega⟩, ck_pos ⟨by omega, by omega⟩, ck_in (by omega) (by omega), ck_in (by omega) (by omega), e, cb_dec]
    split
    ·cases rd false S.1 (k : Int)
     ·exact ⟨x, rfl⟩
     ·cases rd false S.2.1 (k : Int)
      ·exact ⟨(k : Int), rfl⟩
      ·exact ⟨x, rfl⟩
    ·exact ⟨x, rfl⟩
   obtain ⟨y, h⟩ := key
   obtain ⟨q, hq⟩ := ih (k + 1) y (by omega)
   exact ⟨q, (loopX_next h).trans hq⟩
  ·refine ⟨x, loopX_done ?_⟩
   simp only [Q5.s1, cb_dec]
   rw [if_neg hkr]
theorem doubtful_some {l : List Cl} (hl : l.length ≤ 1000) {S : Sta} (hS1 : S.1.length = l.length) (hS : S.2.1.length = l.length) {i : Nat} (hi : i < l.length) : ∃ b : Bool, Q5.f S l (i : Int) = some b := by
 unfold Q5.f
 rw [ck_pos ⟨by omega, by omega⟩]
 cases rd false S.1 (i : Int) with
 | true => exact ⟨false, rfl⟩
 | false =>
  obtain ⟨r, h1, _, h2⟩ := dbLoop0 hl hS hi _ 0 (-1) rfl (by omega) (by omega)
  obtain ⟨q, h3⟩ := dbLoop1 hl hS1 hS hi h2 _ 0 (-1) rfl
  rw [show ((0 : Nat) : Int) = 0 from rfl] at h1 h3
  simp only [cb_f, h1, ob_s, h3]
  cases decide ((0 : Int) ≤ r)
  ·exact ⟨_, rfl⟩
  ·exact ⟨_, rfl⟩
theorem usLoop1 {l : List Cl} (hl : l.length ≤ 1000) {S : Sta} (hS : S.2.2.1.length = l.length) {i : Nat} (hi : i ≤ l.length) (u : ByteArray) : ∀ (n k : Nat) (x y : Bool), i - k = n → ∃ q : Bool × Bool, Qa.l1 l S u (i : Int) x y (k : Int) = some q := by
 intro n
 induction n with
 | zero =>
  intro k x y hk
  refine ⟨(x, y), loopX_done ?_⟩
  simp only [Qa.s1, cb_dec]
  rw [if_neg (by omega)]
 | succ n ih =>
  intro k x y hk
  have hlt : k < l.length := by omega
  have e : ((k : Int) + 1) = ((k + 1 : Nat) : Int) := by omega
  have key : ∃ x' y' : Bool, Qa.s1 l S u (i : Int) x y (k : Int) = some (.inl (x', y', ((k + 1 : Nat) : Int))) := by
   simp only [Qa.s1]
   rw [decide_eq_true (by omega), cb_t, ck_pos ⟨by omega, by omega⟩]
   have hc : ∀ {β : Type} (a : Option β), ck (0 ≤ (k : Int) ∧ (k : Int) < ((List.length S.2.2.1 : Nat) : Int)) a = a := fun a => ck_pos ⟨by omega, by omega⟩
   have hi2 : ∀ {β : Type} (a : Option β), ck (InR ((k : Int) + 1)) a = a := fun a => ck_in (by omega) (by omega)
   simp only [hc, hi2]
   simp only [e]
   rw [cb_dec]
   split
   ·cases x <;> cases y <;> exact ⟨_, _, rfl⟩
   ·exact ⟨_, _, rfl⟩
  obtain ⟨x', y', h⟩ := key
  obtain ⟨q, hq⟩ := ih (k + 1) x' y' (by omega)
  exact ⟨q, (loopX_next h).trans hq⟩
theorem usLoop0 {l : List Cl} (hl : l.length ≤ 1000) {S : Sta} (hS : S.2.2.1.length = l.length) {i : Nat} (hi : i ≤ l.length) {us : List ByteArray} (hu : us.length ≤ 1000) : ∀ (n k : Nat), us.length - k = n → ∃ q : Bool ⊕ Unit, Qa.l0 l (i : Int) S us (us.length : Int) (k : Int) = some q := by
 intro n
 induction n with
 | zero =>
  intro k hk
  refine ⟨.inr (), loopX_done ?_⟩
  simp only [Qa.s0, cb_dec]
  rw [if_neg (by omega)]
 | succ n ih =>
  intro k hk
  have hlt : k < us.length := by omega
  have e : ((k : Int) + 1) = ((k + 1 : Nat) : Int) := by omega
  obtain ⟨q, hq⟩ := ih (k + 1) (by omega)
  obtain ⟨p, hp⟩ := usLoop1 hl hS hi us[k] _ 0 false false rfl
  rw [show ((0 : Nat) : Int) = 0 from rfl] at hp
  have key : Qa.s0 l (i : Int) S us (us.length : Int) (k : Int) = some (.inr (.inl true)) ∨ Qa.s0 l (i : Int) S us (us.length : Int) (k : Int) = some (.inl ((k + 1 : Nat) : Int)) := by
   simp only [Qa.s0]
   rw [decide_eq_true (by omega), cb_t, ck_pos ⟨by omega, by omega⟩, rd_lt hlt, hp, ob_s, ck_in (by omega) (by omega), e]
   cases p.1 <;> cases p.2
   ·exact .inr rfl
   ·exact .inr rfl
   ·exact .inl rfl
   ·exact .inr rfl
  rcases key with h | h
  ·exact ⟨_, loopX_done h⟩
  ·exact ⟨q, (loopX_next h).trans hq⟩
theorem uses_some {l : List Cl} (hl : l.length ≤ 1000) {S : Sta} (hS : S.2.2.1.length = l.length) {i : Nat} (hi : i < l.length) (hu : l[i].2.2.2.2.2.1.length ≤ 1000) : ∃ b : Bool, Qa.f S l (i : Int) = some b := by
 unfold Qa.f
 rw [ck_pos ⟨by omega, by omega⟩, rd_lt hi]
 obtain ⟨q, h⟩ := usLoop0 hl hS (by omega : i ≤ l.length) hu _ 0 rfl
 rw [show ((0 : Nat) : Int) = 0 from rfl] at h
 simp only [h, ob_s]
 cases q with
 | inl a => exact ⟨a, rfl⟩
 | inr b => exact ⟨false, rfl⟩
theorem stLoop2 {l : List Cl} (hl : l.length ≤ 1000) (hu : ∀ c ∈ l, c.2.2.2.2.2.1.length ≤ 1000) {a w : List Bool} (ha : a.length = l.length) (hw : w.length = l.length) (o5 o6 : List ByteArray) : ∀ (n k : Nat) (t : List Bool), l.length - k = n → t.length = l.length → ∃ t' : List Bool, Q1.l2 l (l.length : Int) (k : Int) a w t o5 o6 = some (a, w, t', o5, o6) := by
 intro n
 induction n with
 | zero =>
  intro k t hk ht
  refine ⟨t, loopX_done ?_⟩
  simp only [Q1.s2, cb_dec]
  rw [if_neg (by omega)]
 | succ n ih =>
  intro k t hk ht
  have hlt : k < l.length := by omega
  have e : ((k : Int) + 1) = ((k + 1 : Nat) : Int) := by omega
  obtain ⟨b1, h1⟩ := doubtful_some hl (S := (a, (w, (t, o6)))) ha hw hlt
  obtain ⟨b2, h2⟩ := uses_some hl (S := (a, (w, (t, o6)))) ht hlt (hu _ (List.getElem_mem hlt))
  have key : ∃ b : Bool, Q1.s2 l (l.length : Int) (k : Int) a w t o5 o6 = some (.inl (((k + 1 : Nat) : Int), a, w, t.set k b, o5, o6)) := by
   simp only [Q1.s2]
   rw [decide_eq_true (by omega), cb_t, ck_pos ⟨by omega, by omega⟩, Int.toNat_natCast, ck_pos (by omega), h1, h2]
   have hc : ∀ {β : Type} (x : Option β), ck (0 ≤ (k : Int) ∧ (k : Int) < ((List.length t : Nat) : Int)) x = x := fun x => ck_pos ⟨by omega, by omega⟩
   have hc2 : ∀ {β : Type} (x : Option β), ck (k < List.length t) x = x := fun x => ck_pos (by omega)
   have hi2 : ∀ {β : Type} (x : Option β), ck (InR ((k : Int) + 1)) x = x := fun x => ck_in (by omega) (by omega)
   simp only [hc, hc2, hi2, ob_s]
   simp only [e]
   cases List.getD w k false
   ·cases b1
    ·exact ⟨b2, rfl⟩
    ·exact ⟨true, rfl⟩
   ·exact ⟨true, rfl⟩
  obtain ⟨b, h⟩ := key
  obtain ⟨t', h3⟩ := ih (k + 1) (t.set k b) (by omega) (by simp [ht])
  exact ⟨t', (loopX_next h).trans h3⟩
theorem wrs_len : ∀ (l : List Cl) (w : List Bool), (wrs l w).length ≤ l.length
 | [], _ => by simp [wrs]
 | c :: r, [] => by simp [wrs]
 | c :: r, b :: q => by
  have := wrs_len r q
  cases b <;> simp [wrs] <;> omega
theorem run47 {xs : List ByteArray} (h : xs.length ≤ 1000000000) : srt_47_1000000_run xs = some (sortB xs) := ck_pos h
theorem run48 {xs : List ByteArray} (h : xs.length ≤ 1000000000) : srt_48_1000000_run xs = some (compB xs ++ List.replicate (xs.length - (compB xs).length) (ByteArray.empty)) := ck_pos h
theorem sortB_len (xs : List ByteArray) : (sortB xs).length = xs.length := by simp [sortB]
theorem state_eq {l : List Cl} {m : List Au} (hA : OkA l m) (hu : ∀ c ∈ l, c.2.2.2.2.2.1.length ≤ 1000) : ∃ t' : List Bool, Q1.f l m = some ((fcs l m (List.replicate l.length false, List.replicate l.length false, [])).1, ((fcs l m (List.replicate l.length false, List.replicate l.length false, [])).2.1, (t', compB (sortB (wrs l (fcs l m (List.replicate l.length false, List.replicate l.length false, [])).2.1))))) := by
 have hl := hA.log.len
 have hlen := fcs_len l m (List.replicate l.length false, List.replicate l.length false, [])
 have ha : (fcs l m (List.replicate l.length false, List.replicate l.length false, [])).1.length = l.length := by rw [hlen.1]; simp
 have hw : (fcs l m (List.replicate l.length false, List.replicate l.length false, [])).2.1.length = l.length := by rw [hlen.2]; simp
 have h0 := stLoop0 (l := l) hA.len hA.num (List.replicate l.length false) [] _ 0 (List.replicate l.length false) (List.replicate l.length false) [] rfl (by simp) (by simp)
 rw [show ((0 : Nat) : Int) = 0 from rfl, List.drop_zero] at h0
 have h1 := stLoop1 hl (a := (fcs l m (List.replicate l.length false, List.replicate l.length false, [])).1) (t := List.replicate l.length false) hw [] _ 0 [] rfl (by simp)
 rw [show ((0 : Nat) : Int) = 0 from rfl, List.drop_zero, List.drop_zero, List.nil_append] at h1
 generalize hX : wrs l (fcs l m (List.replicate l.length false, List.replicate l.length false, [])).2.1 = X at h1
 have hXl : X.length ≤ 1000000000 := by rw [← hX]; have := wrs_len l (fcs l m (List.replicate l.length false, List.replicate l.length false, [])).2.1; omega
 have r1 := run47 hXl
 have r2 := run48 (xs := sortB X) (by rw [sortB_len]; exact hXl)
 have r3 : List.take (List.length (compB (sortB X))) (compB (sortB X) ++ List.replicate ((sortB X).length - (compB (sortB X)).length) ByteArray.empty) = compB (sortB X) := List.take_left' rfl
 obtain ⟨t', h2⟩ := stLoop2 hl hu ha hw [] (compB (sortB X)) _ 0 (List.replicate l.length false) rfl (by simp)
 rw [show ((0 : Nat) : Int) = 0 from rfl] at h2
 refine ⟨t', ?_⟩
 have hck : ∀ {β : Type} (a : Option β), ck (0 ≤ ((List.length l : Nat) : Int) ∧ ((List.length l : Nat) : Int) * (1 : Int) ≤ 140737488355328) a = a := fun a => ck_pos ⟨by omega, by omega⟩
 have hs1 : ∀ {β γ : Type} (x : γ) (a : Option β), ck (Option.isSome (some x) = true) a = a := fun x a => ck_pos rfl
 unfold Q1.f
 simp only [mix_eq, hck, Int.toNat_natCast, h0, ob_s, h1, r1, hs1, Option.getD_some, r2, r3, h2, both_same]
end Go.Proofs.YtahlodpolggeiaaGreatDoor
set_option linter.unusedVariables false
namespace Go.Proofs.YtahlodpolggeiaaGreatDoor
open Go Go.Lib Go.Proofs.YtahlodpolggeiaaGreatDoor.Eng
theorem mem_compactUpTo {α : Type} [Inhabited α] [DecidableEq α] (d : Array α) (x : α) : ∀ m : Nat, x ∈ Lib.compactUpTo d m ↔ ∃ j, j < m ∧ d[j]! = x
 | 0 => by simp [Lib.compactUpTo]
 | m + 1 => by
  rw [Lib.compactUpTo_succ, List.mem_append, mem_compactUpTo d x m]
  cases hk : Lib.keeps d m with
  | true =>
   simp only [if_true, List.mem_singleton]
   constructor
   ·rintro (⟨j, h1, h2⟩ | h)
    ·exact ⟨j, by omega, h2⟩
    ·exact ⟨m, by omega, h.symm⟩
   ·rintro ⟨j, h1, h2⟩
    rcases Nat.lt_or_ge j m with h | h
    ·exact .inl ⟨j, h, h2⟩
    ·obtain rfl : j = m := by omega
     exact .inr h2.symm
  | false =>
   simp only [Bool.false_eq_true, if_false, List.not_mem_nil, or_false]
   have hk' := of_decide_eq_false (show decide (m = 0 ∨ d[m]! ≠ d[m - 1]!) = false from hk)
   have h0 : m ≠ 0 := fun e => hk' (.inl e)
   have h1 : d[m]! = d[m - 1]! := Classical.byContradiction fun e => hk' (.inr e)
   constructor
   ·rintro ⟨j, h2, h3⟩; exact ⟨j, by omega, h3⟩
   ·rintro ⟨j, h2, h3⟩
    rcases Nat.lt_or_ge j m with h | h
    ·exact ⟨j, h, h3⟩
    ·obtain rfl : j = m := by omega
     exact ⟨j - 1, by omega, by rw [← h1]; exact h3⟩
theorem mem_compact {α : Type} [Inhabited α] [DecidableEq α] (l : List α) (x : α) : x ∈ Lib.compact l ↔ x ∈ l := by
 unfold Lib.compact
 rw [mem_compactUpTo]
 constructor
 ·rintro ⟨j, h1, h2⟩
  rw [← h2, getElem!_pos _ j (by simpa using h1)]
  simp
 ·intro h
  obtain ⟨j, h1, h2⟩ := List.getElem_of_mem h
  exact ⟨j, h1, by rw [getElem!_pos _ j (by simpa using h1)]; simpa using h2⟩
theorem mem_susp (xs : List ByteArray) (x : ByteArray) : x ∈ compB (sortB xs) ↔ x ∈ xs := by
 have e : (sortB xs).map toL = (xs.map toL).mergeSort fun x y => decide (x ≤ y) := by
  unfold sortB
  rw [List.map_map]
  exact (List.map_congr_left fun l _ => toL_ofL l).trans (List.map_id _)
 unfold compB
 rw [List.mem_map]
 constructor
 ·rintro ⟨l, h1, rfl⟩
  rw [mem_compact, e, List.mem_mergeSort, List.mem_map] at h1
  obtain ⟨b, hb, rfl⟩ := h1
  rw [ofL_toL]; exact hb
 ·intro h
  exact ⟨toL x, by rw [mem_compact, e, List.mem_mergeSort]; exact List.mem_map_of_mem h, ofL_toL x⟩
theorem mgetA_set {α : Type} (x y : ByteArray) (v : α) : ∀ es : List (ByteArray × α), mgetA x (msetA y v es) = if x = y then some v else mgetA x es
 | [] => by
  unfold msetA mgetA
  by_cases h : x = y
  ·rw [if_pos h, decide_eq_true h]
  ·rw [if_neg h, decide_eq_false h]; rfl
 | p :: r => by
  have ih := mgetA_set x y v r
  unfold msetA
  by_cases hp : y = p.1
  ·rw [decide_eq_true hp]
   show mgetA x ((y, v) :: r) = _
   by_cases h : x = y
   ·rw [if_pos h]; unfold mgetA; rw [decide_eq_true h]
   ·rw [if_neg h]
    have h2 : ¬ x = p.1 := fun e => h (e.trans hp.symm)
    unfold mgetA
    rw [decide_eq_false h, decide_eq_false h2]
  ·rw [decide_eq_false hp]
   cases klt y p.1 with
   | true =>
    show mgetA x ((y, v) :: p :: r) = _
    by_cases h : x = y
    ·rw [if_pos h]; unfold mgetA; rw [decide_eq_true h]
    ·rw [if_neg h]
     show mgetA x ((y, v) :: p :: r) = mgetA x (p :: r)
     conv => lhs; unfold mgetA
     rw [decide_eq_false h]
   | false =>
    show mgetA x (p :: msetA y v r) = _
    by_cases h2 : x = p.1
    ·have h : ¬ x = y := fun e => hp (e.symm.trans h2)
     rw [if_neg h]
     unfold mgetA
     rw [decide_eq_true h2]
    ·have e1 : mgetA x (p :: msetA y v r) = mgetA x (msetA y v r) := by
      conv => lhs; unfold mgetA
      rw [decide_eq_false h2]
     have e2 : mgetA x (p :: r) = mgetA x r := by
      conv => lhs; unfold mgetA
      rw [decide_eq_false h2]
     rw [e1, e2, ih]
end Go.Proofs.YtahlodpolggeiaaGreatDoor
set_option linter.unusedVariables false
set_option linter.unusedSimpArgs false
namespace Go.Proofs.YtahlodpolggeiaaGreatDoor
open Go Go.Lib Go.Proofs.YtahlodpolggeiaaGreatDoor.Eng
theorem mem_wrs (x : ByteArray) : ∀ (l : List Cl) (w : List Bool), x ∈ wrs l w ↔ ∃ i, ∃ h : i < l.length, w[i]? = some true ∧ l[i].2.2.2.1 = x
 | [], w => by simp [wrs]
 | c :: r, [] => by simp [wrs]
 | c :: r, b :: q => by
  have ih := mem_wrs x r q
  have shift : (∃ i, ∃ h : i < (c :: r).length, (b :: q)[i]? = some true ∧ (c :: r)[i].2.2.2.1 = x) ↔ (b = true ∧ c.2.2.2.1 = x) ∨ ∃ i, ∃ h : i < r.length, q[i]? = some true ∧ r[i].2.2.2.1 = x := by
   constructor
   ·rintro ⟨i, h, h1, h2⟩
    cases i with
    | zero => exact .inl ⟨by simpa using h1, h2⟩
    | succ i => exact .inr ⟨i, by simpa using h, by simpa using h1, by simpa using h2⟩
   ·rintro (⟨h1, h2⟩ | ⟨i, h, h1, h2⟩)
    ·exact ⟨0, by simp, by simp [h1], h2⟩
    ·exact ⟨i + 1, by simpa using h, by simpa using h1, by simpa using h2⟩
  rw [shift]
  cases b with
  | true =>
   show x ∈ c.2.2.2.1 :: wrs r q ↔ _
   rw [List.mem_cons, ih]
   constructor
   ·rintro (h | h)
    ·exact .inl ⟨rfl, h.symm⟩
    ·exact .inr h
   ·rintro (⟨_, h⟩ | h)
    ·exact .inl h.symm
    ·exact .inr h
  | false =>
   show x ∈ wrs r q ↔ _
   rw [ih]
   constructor
   ·exact .inr
   ·rintro (⟨h, _⟩ | h)
    ·cases h
    ·exact h
def SusW (l : List Cl) (t : Fc) : Prop := ∀ x, Option.getD (mget x t.2.2) false = true ↔ ∃ i, ∃ h : i < l.length, t.2.1[i]? = some true ∧ l[i].2.2.2.1 = x
theorem fcs_sus {l : List Cl} : ∀ (m : List Au) (t : Fc), (∀ a ∈ m, 0 ≤ a.1 ∧ a.1 < (l.length : Int)) → t.2.1.length = l.length → SusW l t → SusW l (fcs l m t)
 | [], t, _, _, h => h
 | a :: r, t, hn, ht, h => by
  rw [fcs_cons]
  obtain ⟨h1, h2⟩ := hn a (List.mem_cons_self ..)
  refine fcs_sus r _ (fun b hb => hn b (List.mem_cons_of_mem _ hb)) ?_ ?_
  ·cases same l a <;> simp [ht]
  ·cases hs : same l a with
   | true => exact h
   | false =>
    intro x
    have hlt : a.1.toNat < l.length := by omega
    have e : rd C0 l a.1 = l[a.1.toNat] := by simp [rd, List.getD, List.getElem?_eq_getElem hlt]
    show Option.getD (mgetA x (msetA (rd C0 l a.1).2.2.2.1 true t.2.2)) false = true ↔ _
    rw [mgetA_set, e]
    have hx := h x
    by_cases hw : x = l[a.1.toNat].2.2.2.1
    ·rw [if_pos hw]
     refine ⟨fun _ => ⟨a.1.toNat, hlt, ?_, hw.symm⟩, fun _ => rfl⟩
     show (t.2.1.set a.1.toNat true)[a.1.toNat]? = _
     rw [List.getElem?_set_self (by omega)]
    ·rw [if_neg hw]
     refine hx.trans ⟨?_, ?_⟩
     ·rintro ⟨i, hi, h3, h4⟩
      refine ⟨i, hi, ?_, h4⟩
      show (t.2.1.set a.1.toNat true)[i]? = _
      rw [List.getElem?_set]
      split
      ·rw [if_pos (by omega)]
      ·exact h3
     ·rintro ⟨i, hi, h3, h4⟩
      have h3 : (t.2.1.set a.1.toNat true)[i]? = some true := h3
      have hne : ¬ a.1.toNat = i := fun e' => by subst e'; exact hw h4.symm
      rw [List.getElem?_set_ne hne] at h3
      exact ⟨i, hi, h3, h4⟩
def memB (X : List ByteArray) (x : ByteArray) : Bool := X.any fun y => decide (x = y)
theorem memB_t {X : List ByteArray} {x : ByteArray} (h : x ∈ X) : memB X x = true := List.any_eq_true.2 ⟨x, h, decide_eq_true rfl⟩
theorem memB_f {X : List ByteArray} {x : ByteArray} (h : x ∉ X) : memB X x = false := by
 cases hb : memB X x with
 | false => rfl
 | true =>
  obtain ⟨y, hy, e⟩ := List.any_eq_true.1 hb
  exact absurd hy ((of_decide_eq_true e) ▸ h)
theorem fcs_susp {l : List Cl} {m : List Au} (hA : OkA l m) (x : ByteArray) :
  Option.getD (mget x (fcs l m (List.replicate l.length false, List.replicate l.length false, [])).2.2) false = memB (compB (sortB (wrs l (fcs l m (List.replicate l.length false, List.replicate l.length false, [])).2.1))) x := by
 have h := fcs_sus (l := l) m (List.replicate l.length false, List.replicate l.length false, []) hA.num (by simp) (fun x => by
  constructor
  ·intro h; cases h
  ·rintro ⟨i, hi, h1, _⟩
   have h1 : (List.replicate l.length false)[i]? = some true := h1
   rw [List.getElem?_replicate] at h1
   split at h1 <;> cases h1) x
 rw [← mem_wrs] at h
 have h2 := h.trans (mem_susp _ x).symm
 cases hb : Option.getD (mget x (fcs l m (List.replicate l.length false, List.replicate l.length false, [])).2.2) false with
 | true => rw [hb] at h2; exact (memB_t (h2.1 rfl)).symm
 | false => rw [hb] at h2; exact (memB_f (fun h3 => by cases h2.2 h3)).symm
theorem containsLoop {X : List ByteArray} (hX : X.length ≤ 1000000000) (x : ByteArray) : ∀ (n k : Nat), X.length - k = n → ∃ r, Q9.l0 X x (X.length : Int) (k : Int) = some r ∧ ((r = .inr () ∧ x ∉ X.drop k) ∨ ∃ j : Nat, r = .inl (j : Int) ∧ x ∈ X.drop k) := by
 intro n
 induction n with
 | zero =>
  intro k hk
  refine ⟨.inr (), loopX_done ?_, .inl ⟨rfl, ?_⟩⟩
  ·simp only [Q9.s0, cb_dec]
   rw [if_neg (by omega)]
  ·rw [List.drop_eq_nil_of_le (by omega)]; simp
 | succ n ih =>
  intro k hk
  have hlt : k < X.length := by omega
  have e : ((k : Int) + 1) = ((k + 1 : Nat) : Int) := by omega
  obtain ⟨r, h1, h2⟩ := ih (k + 1) (by omega)
  rw [List.drop_eq_getElem_cons hlt]
  by_cases hx : x = X[k]
  ·refine ⟨.inl (k : Int), loopX_done ?_, .inr ⟨k, rfl, by rw [← hx]; exact List.mem_cons_self ..⟩⟩
   simp only [Q9.s0]
   rw [decide_eq_true (by omega), cb_t, ck_pos ⟨by omega, by omega⟩, rd_lt hlt, decide_eq_true hx]
   rfl
  ·refine ⟨r, (loopX_next ?_).trans h1, ?_⟩
   ·simp only [Q9.s0]
    rw [decide_eq_true (by omega), cb_t, ck_pos ⟨by omega, by omega⟩, rd_lt hlt, decide_eq_false hx]
    simp only [cb_f]
    rw [ck_in (by omega) (by omega), e]
   ·rcases h2 with ⟨h2, h3⟩ | ⟨j, h2, h3⟩
    ·exact .inl ⟨h2, by rw [List.mem_cons, not_or]; exact ⟨hx, h3⟩⟩
    ·exact .inr ⟨j, h2, List.mem_cons_of_mem _ h3⟩
theorem contains_eq {X : List ByteArray} (hX : X.length ≤ 1000000000) (x : ByteArray) : Qw.f X x = some (memB X x) := by
 obtain ⟨r, h1, h2⟩ := containsLoop hX x _ 0 rfl
 rw [show ((0 : Nat) : Int) = 0 from rfl] at h1
 unfold Qw.f Q9.f
 simp only [h1, ob_s]
 rcases h2 with ⟨rfl, h3⟩ | ⟨j, rfl, h3⟩
 ·rw [List.drop_zero] at h3
  rw [memB_f h3]
  rfl
 ·rw [List.drop_zero] at h3
  rw [memB_t h3]
  show some (decide ((0 : Int) ≤ (j : Int))) = _
  rw [decide_eq_true (by omega)]
def lotZ (every round : Int) (i : Nat) (c : Cl) : Bool := decide (Option.getD (Q2s.f round (i : Int) c.1 every) 1 = 0)
def dueB (every round : Int) (S : List (ByteArray × Bool)) : Nat → List Cl → List Bool → List Bool
 | k, c :: r, a :: q => (!a && (Option.getD (mget c.2.2.2.1 S) false || lotZ every round k c)) :: dueB every round S (k + 1) r q
 | _, _, _ => []
theorem dueB_len (every round : Int) (S : List (ByteArray × Bool)) : ∀ (l : List Cl) (k : Nat) (a : List Bool), (dueB every round S k l a).length ≤ l.length
 | [], _, _ => by simp [dueB]
 | c :: r, k, [] => by simp [dueB]
 | c :: r, k, a :: q => by
  have := dueB_len every round S r (k + 1) q
  simp [dueB]; exact this
theorem dueP {l : List Cl} (hL : OkL l) {a : List Bool} (ha : a.length = l.length) (w : List Bool) (S : List (ByteArray × Bool)) {every round : Int} (he : every ≠ 0) (h0 : 0 ≤ round) (h1 : round ≤ 1000000000) : ∀ (n k : Nat) (o : List Bool), l.length - k = n → k ≤ l.length → o.length = l.length →
  Q1o.l0 every round (a, (w, S)) l (l.length : Int) (k : Int) o = some (o.take k ++ dueB every round S k (l.drop k) (a.drop k)) := by
 have hl := hL.len
 intro n
 induction n with
 | zero =>
  intro k o hk hkl ho
  refine loopX_done ?_
  simp only [Q1o.s0, cb_dec]
  rw [if_neg (by omega), List.drop_eq_nil_of_le (by omega), List.take_of_length_le (by omega)]
  simp [dueB]
 | succ n ih =>
  intro k o hk hkl ho
  have hlt : k < l.length := by omega
  have hlta : k < a.length := by omega
  have e : ((k : Int) + 1) = ((k + 1 : Nat) : Int) := by omega
  have hkey : l[k].1.size ≤ 1000 := by
   have h2 := digB_size (hL.ok _ (List.getElem_mem hlt)).2.key
   omega
  obtain ⟨v, h2, h3⟩ := lot_eq (i := (k : Int)) (key := l[k].1) h0 h1 (by omega) (by omega) hkey he
  have hz : lotZ every round k l[k] = decide (v = 0) := by unfold lotZ; rw [h2]; rfl
  have hg : rd false a (k : Int) = a[k] := by simp [rd, List.getD, List.getElem?_eq_getElem hlta]
  rw [List.drop_eq_getElem_cons hlt, List.drop_eq_getElem_cons hlta]
  have key : ∀ b : Bool, Q1o.s0 every round (a, (w, S)) l (l.length : Int) (k : Int) o = some (.inl (((k + 1 : Nat) : Int), o.set k b)) → (!a[k] && (Option.getD (mget l[k].2.2.2.1 S) false || lotZ every round k l[k])) = b →
    Q1o.l0 every round (a, (w, S)) l (l.length : Int) (k : Int) o = some (o.take k ++ dueB every round S k (l[k] :: l.drop (k + 1)) (a[k] :: a.drop (k + 1))) := by
   intro b hs hb
   refine (loopX_next hs).trans ((ih (k + 1) (o.set k b) (by omega) (by omega) (by simp [ho])).trans ?_)
   have ht : (o.set k b).take (k + 1) = o.take k ++ [b] := by
    rw [List.take_add_one, List.take_set_of_le (Nat.le_refl k), List.getElem?_set_self (by omega)]
    rfl
   rw [ht]
   show some ((o.take k ++ [b]) ++ _) = some (o.take k ++ ((!a[k] && _) :: _))
   rw [hb]
   simp
  have hb1 : ∀ {β : Type} (x : Option β), ck (0 ≤ (k : Int) ∧ (k : Int) < ((List.length a : Nat) : Int)) x = x := fun x => ck_pos ⟨by omega, by omega⟩
  have hb2 : ∀ {β : Type} (x : Option β), ck (0 ≤ (k : Int) ∧ (k : Int) < ((List.length o : Nat) : Int)) x = x := fun x => ck_pos ⟨by omega, by omega⟩
  have hb3 : ∀ {β : Type} (x : Option β), ck (k < List.length o) x = x := fun x => ck_pos (by omega)
  have hb4 : ∀ {β : Type} (x : Option β), ck (InR (((k + 1 : Nat) : Int))) x = x := fun x => ck_in (by omega) (by omega)
  by_cases haud : a[k] = true
  ·skip
   refine key false ?_ (by rw [haud]; rfl)
   simp only [Q1o.s0]
   rw [decide_eq_true (by omega), cb_t, ck_pos ⟨by omega, by omega⟩]
   simp only [hb1, hg, haud, Bool.not_true, cb_f, hb2, Int.toNat_natCast, hb3, hb4, e]
  ·have haud : a[k] = false := by simpa using haud
   by_cases hsu : Option.getD (mget l[k].2.2.2.1 S) false = true
   ·skip
    refine key true ?_ (by rw [haud, hsu]; rfl)
    simp only [Q1o.s0]
    rw [decide_eq_true (by omega), cb_t, ck_pos ⟨by omega, by omega⟩]
    simp only [hb1, hg, haud, Bool.not_false, cb_t, rd_lt hlt, hsu, hb2, Int.toNat_natCast, hb3, hb4, e]
   ·have hsu : Option.getD (mget l[k].2.2.2.1 S) false = false := by simpa using hsu
    refine key (decide (v = 0)) ?_ (by rw [haud, hsu, hz]; rfl)
    simp only [Q1o.s0]
    rw [decide_eq_true (by omega), cb_t, ck_pos ⟨by omega, by omega⟩]
    simp only [hb1, hg, haud, Bool.not_false, cb_t, rd_lt hlt, hsu, cb_f, h2, ob_s, hb2, Int.toNat_natCast, hb3, hb4, e]
theorem dueR {l : List Cl} (hL : OkL l) {a : List Bool} (ha : a.length = l.length) (w t : List Bool) {X : List ByteArray} (hX : X.length ≤ 1000) (S : List (ByteArray × Bool)) (hS : ∀ x, Option.getD (mget x S) false = memB X x) {every round : Int} (he : every ≠ 0) (h0 : 0 ≤ round) (h1 : round ≤ 1000000000) : ∀ (n k : Nat) (o : List Int), l.length - k = n → k ≤ l.length → o.length ≤ k →
  Q1k.l0 every round (a, (w, (t, X))) l (l.length : Int) (k : Int) o = some (o ++ nums k (dueB every round S k (l.drop k) (a.drop k))) := by
 have hl := hL.len
 intro n
 induction n with
 | zero =>
  intro k o hk hkl ho
  refine loopX_done ?_
  simp only [Q1k.s0, cb_dec]
  rw [if_neg (by omega), List.drop_eq_nil_of_le (by omega)]
  simp [dueB, nums]
 | succ n ih =>
  intro k o hk hkl ho
  have hlt : k < l.length := by omega
  have hlta : k < a.length := by omega
  have e : ((k : Int) + 1) = ((k + 1 : Nat) : Int) := by omega
  have hkey : l[k].1.size ≤ 1000 := by
   have h2 := digB_size (hL.ok _ (List.getElem_mem hlt)).2.key
   omega
  obtain ⟨v, h2, h3⟩ := lot_eq (i := (k : Int)) (key := l[k].1) h0 h1 (by omega) (by omega) hkey he
  have hz : lotZ every round k l[k] = decide (v = 0) := by unfold lotZ; rw [h2]; rfl
  have hg : rd false a (k : Int) = a[k] := by simp [rd, List.getD, List.getElem?_eq_getElem hlta]
  rw [List.drop_eq_getElem_cons hlt, List.drop_eq_getElem_cons hlta]
  have hb1 : ∀ {β : Type} (x : Option β), ck (0 ≤ (k : Int) ∧ (k : Int) < ((List.length a : Nat) : Int)) x = x := fun x => ck_pos ⟨by omega, by omega⟩
  have hb4 : ∀ {β : Type} (x : Option β), ck (InR (((k + 1 : Nat) : Int))) x = x := fun x => ck_in (by omega) (by omega)
  have hb5 : ∀ {β : Type} (x : Option β), ck ((List.length o + List.length ([(k : Int)] : List Int)) * 8 ≤ 140737488355328) x = x := fun x => ck_pos (by simp; omega)
  have yes : Q1k.s0 every round (a, (w, (t, X))) l (l.length : Int) (k : Int) o = some (.inl (((k + 1 : Nat) : Int), o ++ [(k : Int)])) → (!a[k] && (Option.getD (mget l[k].2.2.2.1 S) false || lotZ every round k l[k])) = true →
    Q1k.l0 every round (a, (w, (t, X))) l (l.length : Int) (k : Int) o = some (o ++ nums k (dueB every round S k (l[k] :: l.drop (k + 1)) (a[k] :: a.drop (k + 1)))) := by
   intro hs hb
   refine (loopX_next hs).trans ((ih (k + 1) (o ++ [(k : Int)]) (by omega) (by omega) (by simp; omega)).trans ?_)
   show _ = some (o ++ nums k ((!a[k] && _) :: _))
   rw [hb]
   simp [nums]
  have no : Q1k.s0 every round (a, (w, (t, X))) l (l.length : Int) (k : Int) o = some (.inl (((k + 1 : Nat) : Int), o)) → (!a[k] && (Option.getD (mget l[k].2.2.2.1 S) false || lotZ every round k l[k])) = false →
    Q1k.l0 every round (a, (w, (t, X))) l (l.length : Int) (k : Int) o = some (o ++ nums k (dueB every round S k (l[k] :: l.drop (k + 1)) (a[k] :: a.drop (k + 1)))) := by
   intro hs hb
   refine (loopX_next hs).trans ((ih (k + 1) o (by omega) (by omega) (by omega)).trans ?_)
   show _ = some (o ++ nums k ((!a[k] && _) :: _))
   rw [hb]
   simp [nums]
  have hC := contains_eq (X := X) (by omega) l[k].2.2.2.1
  by_cases haud : a[k] = true
  ·skip
   refine no ?_ (by rw [haud]; rfl)
   simp only [Q1k.s0]
   rw [decide_eq_true (by omega), cb_t, ck_pos ⟨by omega, by omega⟩]
   simp only [hb1, hg, haud, Bool.not_true, cb_f, hb4, e]
  ·have haud : a[k] = false := by simpa using haud
   by_cases hv : v = 0
   ·refine yes ?_ (by rw [haud, hz, decide_eq_true hv]; simp)
    simp only [Q1k.s0]
    rw [decide_eq_true (by omega), cb_t, ck_pos ⟨by omega, by omega⟩]
    simp only [hb1, hg, haud, Bool.not_false, cb_t, rd_lt hlt, h3, ob_s, decide_eq_true hv, hb5, hb4, e]
   ·by_cases hin : l[k].2.2.2.1 ∈ X
    ·refine yes ?_ (by rw [haud, hS, memB_t hin]; simp)
     simp only [Q1k.s0]
     rw [decide_eq_true (by omega), cb_t, ck_pos ⟨by omega, by omega⟩]
     simp only [hb1, hg, haud, Bool.not_false, cb_t, rd_lt hlt, h3, ob_s, decide_eq_false hv, cb_f, hC, memB_t hin, hb5, hb4, e]
    ·refine no ?_ (by rw [haud, hS, hz, memB_f hin, decide_eq_false hv]; rfl)
     simp only [Q1k.s0]
     rw [decide_eq_true (by omega), cb_t, ck_pos ⟨by omega, by omega⟩]
     simp only [hb1, hg, haud, Bool.not_false, cb_t, rd_lt hlt, h3, ob_s, decide_eq_false hv, cb_f, hC, memB_f hin, hb4, e]
end Go.Proofs.YtahlodpolggeiaaGreatDoor
set_option linter.unusedVariables false
set_option linter.unusedSimpArgs false
namespace Go.Proofs.YtahlodpolggeiaaGreatDoor
open Go Go.Lib Go.Proofs.YtahlodpolggeiaaGreatDoor.Eng
theorem compB_len (xs : List ByteArray) : (compB xs).length ≤ xs.length := by
 have hle : (Lib.compact (xs.map toL)).length ≤ xs.length := by
  unfold Lib.compact Lib.compactUpTo
  rw [List.length_map]
  exact Nat.le_trans (List.length_filter_le _ _) (by simp)
 unfold compB
 rw [List.length_map]
 exact hle
theorem numbersR_eq (w : List Bool) : Q1g.f w = Qv.f w := rfl
theorem due_ref {l : List Cl} (hs : ∀ c ∈ l, szR c) (m : List Au) (every round : Int) : ∃ x : List Int × Int, Q1o.f l m every round = some x ∧ Q1k.f l m every round = some x ∧ x.1.length ≤ 1000 := by
 obtain ⟨f, h1, h2⟩ := checkAud (fun c hc => (hs c hc).toC) m
 have h3 : Qh.f l m = some f := (audRef hs m).symm.trans h1
 unfold Q1o.f Q1k.f
 simp only [h1, h3, ob_s]
 by_cases hf : f = 0
 ·have hA := h2 hf
  have hl := hA.log.len
  rw [decide_eq_true hf]
  simp only [Bool.not_true, cb_f, within_eq, withinR_eq, ob_s]
  by_cases he : (1 : Int) ≤ every ∧ every ≤ 1000000
  ·rw [decide_eq_true he]
   simp only [Bool.not_true, cb_f]
   by_cases hr : (0 : Int) ≤ round ∧ round ≤ 1000000000
   ·rw [decide_eq_true hr]
    simp only [Bool.not_true, cb_f]
    have hlen := fcs_len l m (List.replicate l.length false, List.replicate l.length false, [])
    have ha : (fcs l m (List.replicate l.length false, List.replicate l.length false, [])).1.length = l.length := by rw [hlen.1]; simp
    obtain ⟨t', hst⟩ := state_eq hA (fun c hc => Nat.le_trans (hA.log.ok c hc).2.many (by decide))
    have hX : (compB (sortB (wrs l (fcs l m (List.replicate l.length false, List.replicate l.length false, [])).2.1))).length ≤ 1000 := by
     refine Nat.le_trans (compB_len _) ?_
     rw [sortB_len]
     exact Nat.le_trans (wrs_len _ _) hl
    have hP := dueP hA.log ha (fcs l m (List.replicate l.length false, List.replicate l.length false, [])).2.1 (fcs l m (List.replicate l.length false, List.replicate l.length false, [])).2.2 (every := every) (round := round) (by omega) hr.1 hr.2 _ 0 (List.replicate l.length false) rfl (Nat.zero_le _) (by simp)
    have hR := dueR hA.log ha (fcs l m (List.replicate l.length false, List.replicate l.length false, [])).2.1 t' hX (fcs l m (List.replicate l.length false, List.replicate l.length false, [])).2.2 (fcs_susp hA) (every := every) (round := round) (by omega) hr.1 hr.2 _ 0 [] rfl (Nat.zero_le _) (by simp)
    rw [show ((0 : Nat) : Int) = 0 from rfl, List.drop_zero, List.drop_zero] at hP hR
    rw [List.take_zero, List.nil_append] at hP
    rw [List.nil_append] at hR
    have hD := dueB_len every round (fcs l m (List.replicate l.length false, List.replicate l.length false, [])).2.2 l 0 (fcs l m (List.replicate l.length false, List.replicate l.length false, [])).1
    have hck : ∀ {β : Type} (a : Option β), ck (0 ≤ ((List.length l : Nat) : Int) ∧ ((List.length l : Nat) : Int) * (1 : Int) ≤ 140737488355328) a = a := fun a => ck_pos ⟨by omega, by omega⟩
    refine ⟨(nums 0 (dueB every round (fcs l m (List.replicate l.length false, List.replicate l.length false, [])).2.2 0 l (fcs l m (List.replicate l.length false, List.replicate l.length false, [])).1), 0), ?_, ?_, ?_⟩
    ·simp only [facts_eq hA, ob_s, hck, Int.toNat_natCast]
     rw [show fcs l m (List.replicate l.length false, List.replicate l.length false, []) = ((fcs l m (List.replicate l.length false, List.replicate l.length false, [])).1, ((fcs l m (List.replicate l.length false, List.replicate l.length false, [])).2.1, (fcs l m (List.replicate l.length false, List.replicate l.length false, [])).2.2)) from rfl, hP]
     simp only [ob_s, numbers_eq (Nat.le_trans hD hl)]
    ·simp only [hst, ob_s, hR]
    ·exact Nat.le_trans (nums_len _ 0) (Nat.le_trans hD hl)
   ·rw [decide_eq_false hr]
    exact ⟨([], 1), rfl, rfl, Nat.zero_le _⟩
  ·rw [decide_eq_false he]
   exact ⟨([], 1), rfl, rfl, Nat.zero_le _⟩
 ·rw [decide_eq_false hf]
  exact ⟨([], f), rfl, rfl, Nat.zero_le _⟩
theorem wrong_ref {l : List Cl} (hs : ∀ c ∈ l, szR c) (m : List Au) : ∃ x : List Int × Int, Q2n.f l m = some x ∧ Q2j.f l m = some x ∧ x.1.length ≤ 1000 := by
 obtain ⟨f, h1, h2⟩ := checkAud (fun c hc => (hs c hc).toC) m
 have h3 : Qh.f l m = some f := (audRef hs m).symm.trans h1
 unfold Q2n.f Q2j.f
 simp only [h1, h3, ob_s]
 by_cases hf : f = 0
 ·have hA := h2 hf
  have hl := hA.log.len
  rw [decide_eq_true hf]
  have hlen := fcs_len l m (List.replicate l.length false, List.replicate l.length false, [])
  have hw : (fcs l m (List.replicate l.length false, List.replicate l.length false, [])).2.1.length ≤ 1000 := by rw [hlen.2]; simp; exact hl
  obtain ⟨t', hst⟩ := state_eq hA (fun c hc => Nat.le_trans (hA.log.ok c hc).2.many (by decide))
  simp only [Bool.not_true, cb_f, facts_eq hA, hst, ob_s, numbersR_eq, numbers_eq hw]
  exact ⟨_, rfl, rfl, Nat.le_trans (nums_len _ 0) hw⟩
 ·rw [decide_eq_false hf]
  exact ⟨([], f), rfl, rfl, Nat.zero_le _⟩
theorem equalI {l : List Int} (hl : l.length ≤ 1000000000000) : Qg.f l l = some true := by
 have go : ∀ (n k : Nat), l.length - k = n → Qg.l0 l l (l.length : Int) (k : Int) = some (.inr ()) := by
  intro n
  induction n with
  | zero =>
   intro k hn
   refine loopX_done ?_
   simp only [Qg.s0, cb_dec]
   rw [if_neg (by omega)]
  | succ n ih =>
   intro k hn
   have hlt : k < l.length := by omega
   refine (loopX_next ?_).trans (ih (k + 1) (by omega))
   simp only [Qg.s0, cb_dec, rd_lt hlt, cb_not, if_true]
   rw [if_pos (by omega), ck_pos (by omega), ck_pos (by omega), ck_in (by omega) (by omega)]
   rfl
 have h := go l.length 0 (by omega)
 rw [show ((0 : Nat) : Int) = 0 from rfl] at h
 unfold Qg.f
 simp only [cb_not, cb_dec, if_true, h, ob_s, caseS_r]
theorem eqS_self (x : ByteArray) : eqS x x = true := by
 cases x with
 | mk d =>
  show (d == d) = true
  simp
theorem equalA {l : List Au} (hl : l.length ≤ 1000000000000) : Q6.f l l = some true := by
 have go : ∀ (n k : Nat), l.length - k = n → Q6.l0 l l (l.length : Int) (k : Int) = some (.inr ()) := by
  intro n
  induction n with
  | zero =>
   intro k hn
   refine loopX_done ?_
   simp only [Q6.s0, cb_dec]
   rw [if_neg (by omega)]
  | succ n ih =>
   intro k hn
   have hlt : k < l.length := by omega
   have e1 : ∀ x : Int, eqI x x = true := fun x => by simp [eqI]
   have e2 : ∀ x : ByteArray, eqS x x = true := eqS_self
   refine (loopX_next ?_).trans (ih (k + 1) (by omega))
   simp only [Q6.s0, cb_dec, rd_lt hlt, e1, e2, Bool.and_true, Bool.not_true, cb_f]
   rw [if_pos (by omega), ck_pos (by omega), ck_pos (by omega), ck_in (by omega) (by omega)]
   rfl
 have h := go l.length 0 (by omega)
 rw [show ((0 : Nat) : Int) = 0 from rfl] at h
 unfold Q6.f
 simp only [cb_not, cb_dec, if_true, h, ob_s, caseS_r]
theorem cloneA {l : List Au} (h : l.length * 32 ≤ 140737488355328) : Qs.f l = some l := by
 unfold Qs.f
 by_cases he : l = []
 ·subst he
  rw [ck_pos (by simp)]
  exact nq_same
 ·unfold nq
  rw [if_pos he, ck_pos (by simp; omega)]
  rfl
theorem law_DM {l : List Cl} (hl : l.length ≤ 100000000000) (hn : ∀ c ∈ l, c.2.2.2.2.2.1.length ≤ 1000000000000) (hr : ∀ c ∈ l, szR c) {m : List Au} (hm : m.length ≤ 1000000000000) (every round : Int) : Q18.f l m every round = some true := by
 obtain ⟨x, h1, h2, h3⟩ := due_ref hr m every round
 obtain ⟨y, h4, h5, h6⟩ := wrong_ref hr m
 obtain ⟨f, h7, _⟩ := checkAud (fun c hc => (hr c hc).toC) m
 have h8 : Qh.f l m = some f := (audRef hr m).symm.trans h7
 unfold Q18.f
 simp only [copyL hl hn, cloneA (show m.length * 32 ≤ 140737488355328 by omega), h1, h2, h7, h8, ob_s, decide_true, Bool.not_true, cb_f, cb_t, equalI (Nat.le_trans h3 (by decide)), equalI (Nat.le_trans h6 (by decide)), h4, h5, sameL hl hn, equalA hm, awake11]
abbrev TyAu : Ty := .pair (.int .i64) (.pair .str (.int .i64))
theorem law_DM' (x : List Cl × (List Au × (Int × Int))) (hx : Up.InA T 6 [22,56,3,3] [.slice TyCl, .slice TyAu, .int .i64, .int .i64] x) : Q18.f x.1 x.2.1 x.2.2.1 x.2.2.2 = some true := by
 have hu : Up.upBytes = 4294967296 := rfl
 obtain ⟨h1, h2, h3⟩ := up_cls hx.1
 have g : List.length x.2.1 * 32 ≤ Up.upBytes := hx.2.1.1
 exact law_DM h1 h3 h2 (by omega) _ _
end Go.Proofs.YtahlodpolggeiaaGreatDoor
end
