/-
  Plain laws over the printed functions: labels, words, writers, claimed results, digests, logs. No condition.
-/
import Derived.Test.YtahlodpolggeiaaGreatDoorZFun
import Derived.Sort.Walk0
import Derived.Laws.RangeAny
import Derived.Lib.IndexLaws
import Derived.Lib.ItoaLen
set_option linter.unusedVariables false
set_option linter.unusedSimpArgs false
namespace Go.Proofs.YtahlodpolggeiaaGreatDoor
open Go Go.Proofs.YtahlodpolggeiaaGreatDoor.Eng
def BIG : Nat := 140737488355328
theorem size_list (s : ByteArray) : s.size = s.data.toList.length := by rw [ByteArray.size]; simp
theorem bt_get {s : ByteArray} {k : Nat} (h : k < s.data.toList.length) : bt s (k : Int) = s.data.toList[k] := by
 have h' : k < s.size := by rw [size_list]; exact h
 unfold bt
 simp only [Int.toNat_natCast]
 rw [getElem?_pos s k h', Option.getD_some]
 rfl
theorem byteLoop {s : ByteArray} (hs : s.size ≤ BIG) (p : UInt8 → Bool) (f : Int → Option (Int ⊕ (Bool ⊕ Unit))) (hend : ∀ k : Nat, s.data.toList.length ≤ k → f k = some (.inr (.inr ())))
  (hno : ∀ k : Nat, ∀ h : k < s.data.toList.length, p s.data.toList[k] = false → f k = some (.inr (.inl false))) (hyes : ∀ k : Nat, ∀ h : k < s.data.toList.length, p s.data.toList[k] = true → f k = some (.inl ((k : Int) + 1))) :
  ∀ (n k : Nat), s.data.toList.length - k = n → loopX f (k : Int) = some (if (s.data.toList.drop k).all p then .inr () else .inl false) := by
 intro n
 induction n with
 | zero =>
  intro k hn
  rw [List.drop_eq_nil_of_le (by omega)]
  exact loopX_done (hend k (by omega))
 | succ n ih =>
  intro k hn
  have hlt : k < s.data.toList.length := by omega
  rw [List.drop_eq_getElem_cons hlt, List.all_cons]
  cases hp : p s.data.toList[k] with
  | false => exact loopX_done (hno k hlt hp)
  | true =>
   rw [Bool.true_and]
   exact (loopX_next (hyes k hlt hp)).trans (ih (k + 1) (by omega))
def partC (c : UInt8) : Bool := decide (97 ≤ c.toNat ∧ c.toNat ≤ 122) || decide (65 ≤ c.toNat ∧ c.toNat ≤ 90) || decide (48 ≤ c.toNat ∧ c.toNat ≤ 57) || decide (0 ≤ Lib.indexByte [46, 95, 45, 43] c)
theorem inPart_eq (c : UInt8) : blob_inPart.f c = some (partC c) := by
 have hi : strings_IndexByte.f bs_46_95_45_43 c = some (Lib.indexByte [46, 95, 45, 43] c) := rfl
 unfold blob_inPart.f partC
 simp only [cb_dec, hi, ob_s]
 by_cases h1 : (97 : Int) ≤ ((UInt8.toNat c : Nat) : Int) <;> by_cases h2 : ((UInt8.toNat c : Nat) : Int) ≤ 122 <;> by_cases h3 : (65 : Int) ≤ ((UInt8.toNat c : Nat) : Int) <;> by_cases h4 : ((UInt8.toNat c : Nat) : Int) ≤ 90 <;>
  by_cases h5 : (48 : Int) ≤ ((UInt8.toNat c : Nat) : Int) <;> by_cases h6 : ((UInt8.toNat c : Nat) : Int) ≤ 57 <;> simp only [h1, h2, h3, h4, h5, h6, if_true, if_false] <;> congr 1 <;>
  (have g1 : decide (97 ≤ c.toNat ∧ c.toNat ≤ 122) = decide ((97 : Int) ≤ ((UInt8.toNat c : Nat) : Int) ∧ ((UInt8.toNat c : Nat) : Int) ≤ 122) := decide_eq_decide.2 (by omega)
   have g2 : decide (65 ≤ c.toNat ∧ c.toNat ≤ 90) = decide ((65 : Int) ≤ ((UInt8.toNat c : Nat) : Int) ∧ ((UInt8.toNat c : Nat) : Int) ≤ 90) := decide_eq_decide.2 (by omega)
   have g3 : decide (48 ≤ c.toNat ∧ c.toNat ≤ 57) = decide ((48 : Int) ≤ ((UInt8.toNat c : Nat) : Int) ∧ ((UInt8.toNat c : Nat) : Int) ≤ 57) := decide_eq_decide.2 (by omega)
   rw [g1, g2, g3]; simp [h1, h2, h3, h4, h5, h6])
def isPartB (s : ByteArray) : Bool := s.data.toList.all partC && (!decide (s = bs_) && (!decide (s = bs_46) && !decide (s = bs_46_46)))
theorem isPart_eq {s : ByteArray} (hs : s.size ≤ BIG) : blob_isPart.f s = some (isPartB s) := by
 have hb : BIG = 140737488355328 := rfl
 have hl := size_list s
 have h := byteLoop hs partC (fun x => blob_isPart.s0 s (s.size : Int) x) (fun k hk => by
  simp only [blob_isPart.s0, cb_dec]; rw [if_neg (by omega)]) (fun k hk hp => by
  simp only [blob_isPart.s0, cb_dec, bt_get hk, inPart_eq, hp, ob_s]; rw [if_pos (by omega), ck_pos (by omega)]; rfl) (fun k hk hp => by
  simp only [blob_isPart.s0, cb_dec, bt_get hk, inPart_eq, hp, ob_s]; rw [if_pos (by omega), ck_pos (by omega), ck_in (by omega) (by omega)]; rfl) s.data.toList.length 0 (by omega)
 rw [List.drop_zero] at h
 unfold blob_isPart.f isPartB
 show ob (loopX (fun x => blob_isPart.s0 s (s.size : Int) x) ((0 : Nat) : Int)) _ = _
 rw [h]
 cases s.data.toList.all partC
 ·rfl
 ·simp only [if_true, ob_s, caseS_r, Bool.true_and, cb_not, cb_dec]
  by_cases e1 : s = bs_
  ·rw [if_pos e1, decide_eq_true e1]; rfl
  ·rw [if_neg e1, decide_eq_false e1]
   by_cases e2 : s = bs_46
   ·rw [if_pos e2, decide_eq_true e2]; rfl
   ·rw [if_neg e2, decide_eq_false e2]; rfl
theorem indexByte_lt : ∀ (l : List UInt8) (c : UInt8), -1 ≤ Lib.indexByte l c ∧ Lib.indexByte l c < l.length
 | [], c => by simp [Lib.indexByte]
 | b :: l, c => by
  have h := indexByte_lt l c
  unfold Lib.indexByte
  split
  ·simp only [List.length_cons]; omega
  ·split
   ·simp only [List.length_cons]; omega
   ·rename_i h1
    have : ¬ Lib.indexByte l c = -1 := by simpa using h1
    simp only [List.length_cons]; omega
theorem index47 (s : ByteArray) : strings_Index.f s bs_47 = some (Lib.indexByte s.data.toList 47) := by
 show ob (ck _ _) _ = _
 rw [ck_pos (by rfl)]; rfl
theorem index58 (s : ByteArray) : internal_stringslite_Index.f s bs_58 = some (Lib.indexByte s.data.toList 58) := by
 show ck _ _ = _
 rw [ck_pos (by rfl)]; rfl
theorem extract_size (s : ByteArray) (a b : Nat) : (s.extract a b).size = min b s.size - a := by simp [ByteArray.size_extract]
theorem splitLoop {n : Nat} (hn : n ≤ 1000000000000) : ∀ (m i : Nat) (s : ByteArray) (a : List ByteArray), n - i = m → i ≤ n → a.length = n + 1 → s.size ≤ BIG →
  ∃ (s' : ByteArray) (i' : Nat) (a' : List ByteArray), strings_genSplit.l0 bs_47 0 (n : Int) s (i : Int) a = some (s', (i' : Int), a') ∧ i' ≤ n ∧ a'.length = n + 1 ∧ (∀ x ∈ a', x.size ≤ s.size ∨ x ∈ a) ∧ s'.size ≤ s.size := by
 intro m
 have hb : BIG = 140737488355328 := rfl
 induction m with
 | zero =>
  intro i s a hm hi ha hs
  refine ⟨s, i, a, loopX_done ?_, hi, ha, fun x hx => .inr hx, Nat.le_refl _⟩
  simp only [strings_genSplit.s0, cb_dec]
  rw [if_neg (by omega)]
 | succ m ih =>
  intro i s a hm hi ha hs
  have hx := indexByte_lt s.data.toList 47
  have hl := size_list s
  by_cases hneg : Lib.indexByte s.data.toList 47 < 0
  ·refine ⟨s, i, a, loopX_done ?_, hi, ha, fun x hx => .inr hx, Nat.le_refl _⟩
   simp only [strings_genSplit.s0, cb_dec, index47, ob_s]
   rw [if_pos (by omega), if_pos hneg]
  ·have hz1 := extract_size s 0 (Int.toNat (Lib.indexByte s.data.toList 47 + 0))
   have hz2 := extract_size s (Int.toNat (Lib.indexByte s.data.toList 47 + ((bs_47.size : Nat) : Int))) s.size
   have h1 : bs_47.size = 1 := rfl
   obtain ⟨s', i', a', h2, h3, h4, h5, h6⟩ := ih (i + 1) (s.extract (Int.toNat (Lib.indexByte s.data.toList 47 + ((bs_47.size : Nat) : Int))) s.size) (a.set i (s.extract 0 (Int.toNat (Lib.indexByte s.data.toList 47 + 0)))) (by omega) (by omega) (by simpa using ha) (by rw [hz2]; omega)
   refine ⟨s', i', a', (loopX_next ?_).trans h2, h3, h4, fun x hx => ?_, by omega⟩
   ·simp only [strings_genSplit.s0, cb_dec, index47, ob_s]
    rw [if_pos (by omega), if_neg hneg, ck_in (by omega) (by omega), ck_pos (by omega), ck_pos (by omega), ck_pos (by rw [Int.toNat_natCast]; omega), ck_in (by rw [h1]; omega) (by rw [h1]; omega), ck_pos (by rw [h1]; omega), ck_in (by omega) (by omega)]
    rfl
   ·rcases h5 x hx with h | h
    ·left; omega
    ·rcases List.mem_or_eq_of_mem_set h with h | h
     ·exact .inr h
     ·left; rw [h, hz1]; omega
theorem countByte_le (l : List UInt8) (c : UInt8) : (Lib.countByte l c : Nat) ≤ l.length := List.count_le_length
theorem split_some {s : ByteArray} (hs : s.size ≤ 100000000000) : ∃ l, strings_Split.f s bs_47 = some l ∧ l.length ≤ 100000000002 ∧ ∀ x ∈ l, x.size ≤ s.size := by
 have hb : BIG = 140737488355328 := rfl
 have hl := size_list s
 have hc := countByte_le s.data.toList 47
 have hcnt : strings_Count.f s bs_47 = some ((Lib.countByte s.data.toList 47 : Nat) : Int) := by
  show ck _ _ = _
  rw [ck_pos (by rfl)]; rfl
 obtain ⟨s', i', a', h2, h3, h4, h5, h6⟩ := splitLoop (n := Lib.countByte s.data.toList 47) (by omega) _ 0 s (List.replicate (Lib.countByte s.data.toList 47 + 1) ByteArray.empty) rfl (Nat.zero_le _) (by simp) (by omega)
 unfold strings_Split.f strings_genSplit.f
 have e1 : ¬ (bs_47 = bs_) := by decide
 have hy : min (((Lib.countByte s.data.toList 47 : Nat) : Int) + 1) (((s.size : Nat) : Int) + 1) = ((Lib.countByte s.data.toList 47 + 1 : Nat) : Int) := by omega
 simp only [cb_dec, hcnt, ob_s, hy]
 rw [if_neg (by decide), if_neg e1, if_pos (by decide), ck_in (by omega) (by omega), ck_in (by omega) (by omega), ck_pos (by omega), ck_in (by omega) (by omega)]
 rw [show ((Lib.countByte s.data.toList 47 + 1 : Nat) : Int) - 1 = ((Lib.countByte s.data.toList 47 : Nat) : Int) by omega, Int.toNat_natCast]
 rw [show ((0 : Nat) : Int) = 0 from rfl] at h2
 rw [h2, ob_s]
 simp only
 rw [ck_pos (by omega), ck_pos (by rw [Int.toNat_natCast]; omega), ck_in (by omega) (by omega), ck_pos (by simp only [List.length_set]; omega), ob_s]
 refine ⟨_, rfl, by simp only [List.length_take, List.length_drop, List.length_set]; omega, fun x hx => ?_⟩
 have hx1 := List.mem_of_mem_drop (List.mem_of_mem_take hx)
 rcases List.mem_or_eq_of_mem_set hx1 with h | h
 ·rcases h5 x h with h | h
  ·exact h
  ·have := List.eq_of_mem_replicate h
   rw [this]; exact Nat.zero_le _
 ·rw [h]; exact h6
noncomputable def splitL (s : ByteArray) : List ByteArray := (strings_Split.f s bs_47).getD []
theorem split_eq {s : ByteArray} (hs : s.size ≤ 100000000000) : strings_Split.f s bs_47 = some (splitL s) ∧ (splitL s).length ≤ 100000000002 ∧ ∀ x ∈ splitL s, x.size ≤ s.size := by
 obtain ⟨l, h1, h2, h3⟩ := split_some hs
 have e : splitL s = l := by unfold splitL; rw [h1]; rfl
 rw [e]
 exact ⟨h1, h2, h3⟩
theorem listLoop {α : Type} {l : List α} (p : α → Bool) (f : Int → Option (Int ⊕ (Bool ⊕ Unit))) (hend : ∀ k : Nat, l.length ≤ k → f k = some (.inr (.inr ())))
  (hno : ∀ k : Nat, ∀ h : k < l.length, p l[k] = false → f k = some (.inr (.inl false))) (hyes : ∀ k : Nat, ∀ h : k < l.length, p l[k] = true → f k = some (.inl ((k : Int) + 1))) :
  ∀ (n k : Nat), l.length - k = n → loopX f (k : Int) = some (if (l.drop k).all p then .inr () else .inl false) := by
 intro n
 induction n with
 | zero =>
  intro k hn
  rw [List.drop_eq_nil_of_le (by omega)]
  exact loopX_done (hend k (by omega))
 | succ n ih =>
  intro k hn
  have hlt : k < l.length := by omega
  rw [List.drop_eq_getElem_cons hlt, List.all_cons]
  cases hp : p l[k] with
  | false => exact loopX_done (hno k hlt hp)
  | true =>
   rw [Bool.true_and]
   exact (loopX_next (hyes k hlt hp)).trans (ih (k + 1) (by omega))
noncomputable def isPathB (s : ByteArray) : Bool := if 1 ≤ s.size ∧ s.size ≤ 200 then (splitL s).all isPartB else false
theorem isPath_eq (s : ByteArray) : blob_IsPath.f s = some (isPathB s) := by
 have hb : BIG = 140737488355328 := rfl
 unfold blob_IsPath.f isPathB
 simp only [cb_dec]
 by_cases h1 : ((s.size : Nat) : Int) < 1
 ·rw [if_pos h1, if_neg (by omega)]
 ·by_cases h2 : (200 : Int) < ((s.size : Nat) : Int)
  ·rw [if_neg h1, if_pos h2, if_neg (by omega)]
  ·obtain ⟨g1, g2, g3⟩ := split_eq (s := s) (by omega)
   have h := listLoop (l := splitL s) isPartB (fun x => blob_IsPath.s0 (splitL s) ((splitL s).length : Int) x) (fun k hk => by
    simp only [blob_IsPath.s0, cb_dec]; rw [if_neg (by omega)]) (fun k hk hp => by
    have hz := g3 _ (List.getElem_mem hk)
    simp only [blob_IsPath.s0, cb_dec, rd_lt hk, isPart_eq (s := (splitL s)[k]) (by omega), hp, ob_s]; rw [if_pos (by omega), ck_pos (by omega)]; rfl) (fun k hk hp => by
    have hz := g3 _ (List.getElem_mem hk)
    simp only [blob_IsPath.s0, cb_dec, rd_lt hk, isPart_eq (s := (splitL s)[k]) (by omega), hp, ob_s]; rw [if_pos (by omega), ck_pos (by omega), ck_in (by omega) (by omega)]; rfl) (splitL s).length 0 (by omega)
   rw [List.drop_zero] at h
   rw [if_neg h1, if_neg h2, if_pos (by omega), g1, ob_s]
   show ob (loopX (fun x => blob_IsPath.s0 (splitL s) ((splitL s).length : Int) x) ((0 : Nat) : Int)) _ = _
   rw [h]
   cases (splitL s).all isPartB <;> rfl
def hasP (s p : ByteArray) : Bool := decide (p.size ≤ s.size) && decide (s.extract 0 p.size = p)
theorem hasPrefix_eq (s p : ByteArray) : internal_stringslite_HasPrefix.f s p = some (hasP s p) := by
 unfold internal_stringslite_HasPrefix.f hasP
 simp only [cb_dec, Int.toNat_natCast]
 by_cases h : p.size ≤ s.size
 ·rw [if_pos (by omega), ck_pos (by omega), decide_eq_true h, Bool.true_and]
 ·rw [if_neg (by omega), decide_eq_false h, Bool.false_and]
def cutP (s p : ByteArray) : ByteArray × Bool := if hasP s p then (s.extract p.size s.size, true) else (s, false)
theorem cutPrefix_eq (s p : ByteArray) : strings_CutPrefix.f s p = some (cutP s p) := by
 unfold strings_CutPrefix.f internal_stringslite_CutPrefix.f cutP
 simp only [hasPrefix_eq, ob_s, Int.toNat_natCast]
 cases h : hasP s p with
 | false => rfl
 | true =>
  have h' : p.size ≤ s.size := by
   unfold hasP at h
   rw [Bool.and_eq_true] at h
   exact of_decide_eq_true h.1
  simp only [Bool.not_true, cb_f]
  rw [ck_pos (by omega)]
  rfl
def cut58 (s : ByteArray) : ByteArray × (ByteArray × Bool) :=
 if 0 ≤ Lib.indexByte s.data.toList 58 then (s.extract 0 (Lib.indexByte s.data.toList 58).toNat, s.extract ((Lib.indexByte s.data.toList 58).toNat + 1) s.size, true) else (s, bs_, false)
theorem cut_eq {s : ByteArray} (hs : s.size ≤ BIG) : strings_Cut.f s bs_58 = some (cut58 s) := by
 have hb : BIG = 140737488355328 := rfl
 have hx := indexByte_lt s.data.toList 58
 have hl := size_list s
 have h1 : bs_58.size = 1 := rfl
 unfold strings_Cut.f internal_stringslite_Cut.f cut58
 simp only [index58, ob_s, cb_dec, h1]
 by_cases h : 0 ≤ Lib.indexByte s.data.toList 58
 ·rw [if_pos h, if_pos h, ck_pos (by omega), ck_in (by omega) (by omega), ck_pos (by omega), ob_s]
  rw [show (Lib.indexByte s.data.toList 58 + ((1 : Nat) : Int)).toNat = (Lib.indexByte s.data.toList 58).toNat + 1 by omega]
 ·rw [if_neg h, if_neg h]; rfl
theorem last_some {s : ByteArray} (hs : s.size ≤ BIG) : ∃ r, script_last.f s = some r ∧ r.size ≤ s.size := by
 have hb : BIG = 140737488355328 := rfl
 have hl := size_list s
 have go : ∀ (m : Nat) (k : Int), (k + 1).toNat = m → -1 ≤ k → k < s.size → ∃ r, internal_bytealg_LastIndexByteString.l0 s (UInt8.ofInt 47) k = some r ∧ ∀ i, r = .inl i → 0 ≤ i ∧ i < s.size := by
  intro m
  induction m with
  | zero =>
   intro k hm h1 h2
   refine ⟨.inr (), loopX_done ?_, fun i h => by cases h⟩
   simp only [internal_bytealg_LastIndexByteString.s0, cb_dec]
   rw [if_neg (by omega)]
  | succ m ih =>
   intro k hm h1 h2
   by_cases he : ((UInt8.toNat (bt s k) : Nat) : Int) = ((UInt8.toNat (UInt8.ofInt 47) : Nat) : Int)
   ·refine ⟨.inl k, loopX_done ?_, fun i h => by cases h; omega⟩
    simp only [internal_bytealg_LastIndexByteString.s0, cb_dec]
    rw [if_pos (by omega), ck_pos (by omega), if_pos he]
   ·obtain ⟨r, h3, h4⟩ := ih (k - 1) (by omega) (by omega) (by omega)
    refine ⟨r, (loopX_next ?_).trans h3, h4⟩
    simp only [internal_bytealg_LastIndexByteString.s0, cb_dec]
    rw [if_pos (by omega), ck_pos (by omega), if_neg he, ck_in (by omega) (by omega)]
 obtain ⟨r, h1, h2⟩ := go _ (((s.size : Nat) : Int) - 1) rfl (by omega) (by omega)
 unfold script_last.f strings_LastIndexByte.f internal_bytealg_LastIndexByteString.f
 simp only [h1, ob_s]
 rw [ck_in (by omega) (by omega)]
 cases r with
 | inl i =>
  have := h2 i rfl
  simp only [caseS_l, ob_s]
  rw [ck_in (by omega) (by omega), ck_pos (by omega)]
  exact ⟨_, rfl, by rw [extract_size]; omega⟩
 | inr u =>
  simp only [caseS_r, ob_s]
  rw [ck_in (by omega) (by omega), ck_pos (by omega)]
  exact ⟨_, rfl, by rw [extract_size]; omega⟩
noncomputable def labF (a : ByteArray × ByteArray) : Int := if (a.1 = bs_ ∨ isPathB a.1 = true) ∧ isPathB a.2 = true then 0 else 3
theorem checkLabel_eq (a : ByteArray × ByteArray) : script_CheckLabel.f a = some (labF a) := by
 unfold script_CheckLabel.f labF
 simp only [isPath_eq, ob_s, cb_not, cb_dec]
 by_cases e : a.1 = bs_
 ·simp only [e, if_true, true_or, true_and]
  cases isPathB a.2 <;> rfl
 ·simp only [e, if_false, false_or]
  cases isPathB a.1 <;> cases isPathB a.2 <;> rfl
end Go.Proofs.YtahlodpolggeiaaGreatDoor
set_option linter.unusedVariables false
set_option linter.unusedSimpArgs false
namespace Go.Proofs.YtahlodpolggeiaaGreatDoor
open Go Go.Proofs.YtahlodpolggeiaaGreatDoor.Eng
def cmpS (a b : ByteArray) : Int := Lib.compareBytes a.data.toList b.data.toList
theorem cmpL_eq0 : ∀ a b : List UInt8, (Lib.compareBytes a b = 0 ↔ a = b)
 | [], [] => by simp [Lib.compareBytes]
 | [], _ :: _ => by simp [Lib.compareBytes]
 | _ :: _, [] => by simp [Lib.compareBytes]
 | x :: a, y :: b => by
  have ih := cmpL_eq0 a b
  unfold Lib.compareBytes
  by_cases h1 : x < y
  ·have h3 : ¬ x = y := fun e => by subst e; exact absurd h1 (UInt8.lt_irrefl x)
   simp [h1, h3]
  ·by_cases h2 : y < x
   ·have h3 : ¬ x = y := fun e => by subst e; exact absurd h2 (UInt8.lt_irrefl x)
    simp [h1, h2, h3]
   ·have h3 : x = y := UInt8.le_antisymm (UInt8.not_lt.1 h2) (UInt8.not_lt.1 h1)
    subst h3
    simp only [h1, if_false, List.cons.injEq, true_and]
    exact ih
theorem cmpL_trans : ∀ a b c : List UInt8, Lib.compareBytes a b < 0 → Lib.compareBytes b c < 0 → Lib.compareBytes a c < 0
 | [], [], c, h, _ => by simp [Lib.compareBytes] at h
 | [], _ :: _, [], _, h => by simp [Lib.compareBytes] at h
 | [], _ :: _, _ :: _, _, _ => by simp [Lib.compareBytes]
 | _ :: _, [], c, h, _ => by simp [Lib.compareBytes] at h
 | _ :: _, _ :: _, [], _, h => by simp [Lib.compareBytes] at h
 | x :: a, y :: b, z :: c, h, h' => by
  have ih := cmpL_trans a b c
  unfold Lib.compareBytes at h h' ⊢
  by_cases h1 : x < y
  ·by_cases h2 : y < z
   ·simp [UInt8.lt_trans h1 h2]
   ·by_cases h3 : z < y
    ·simp [h2, h3] at h'
    ·have e : y = z := UInt8.le_antisymm (UInt8.not_lt.1 h3) (UInt8.not_lt.1 h2)
     subst e; simp [h1]
  ·by_cases h2 : y < x
   ·simp [h1, h2] at h
   ·have e : x = y := UInt8.le_antisymm (UInt8.not_lt.1 h2) (UInt8.not_lt.1 h1)
    subst e
    by_cases h3 : x < z
    ·simp [h3]
    ·by_cases h4 : z < x
     ·simp [h3, h4] at h'
     ·simp only [h1, if_false] at h
      simp only [h3, h4, if_false] at h' ⊢
      exact ih h h'
theorem cmpS_eq0 (a b : ByteArray) : cmpS a b = 0 ↔ a = b := by
 unfold cmpS
 rw [cmpL_eq0]
 exact ⟨fun h => ByteArray.ext (Array.toList_inj.1 h), fun h => by rw [h]⟩
theorem cmpS_trans {a b c : ByteArray} (h : cmpS a b < 0) (h' : cmpS b c < 0) : cmpS a c < 0 := cmpL_trans _ _ _ h h'
def Rising (l : List ByteArray) : Prop := ∀ i j : Nat, ∀ h : j < l.length, ∀ h' : i < j, cmpS (l[i]'(by omega)) l[j] < 0
theorem Rising.inj {l : List ByteArray} (h : Rising l) {i j : Nat} (hi : i < l.length) (hj : j < l.length) (e : l[i] = l[j]) : i = j := by
 rcases Nat.lt_trichotomy i j with h1 | h1 | h1
 ·have := h i j hj h1
  rw [e] at this
  have h0 := (cmpS_eq0 l[j] l[j]).2 rfl
  omega
 ·exact h1
 ·have := h j i hi h1
  rw [e] at this
  have h0 := (cmpS_eq0 l[j] l[j]).2 rfl
  omega
end Go.Proofs.YtahlodpolggeiaaGreatDoor
set_option linter.unusedVariables false
set_option linter.unusedSimpArgs false
namespace Go.Proofs.YtahlodpolggeiaaGreatDoor
open Go Go.Lib Go.Proofs.YtahlodpolggeiaaGreatDoor.Eng
def plainC (c : UInt8) : Bool := decide (33 ≤ c.toNat ∧ c.toNat ≤ 126)
def plainB (s : ByteArray) : Bool := s.data.toList.all plainC
theorem get_list {s : ByteArray} {k : Nat} (h : k < s.size) : s[k] = s.data.toList[k]'(by rw [← size_list]; exact h) := by
 rfl
theorem idx_plain (s : ByteArray) : ∀ (f pos : Nat), s.size - pos ≤ f → decide (0 ≤ idxFuncFrom notPlain true s f pos) = !(s.data.toList.drop pos).all plainC
 | 0, pos, h => by
  have hl := size_list s
  rw [List.drop_eq_nil_of_le (by omega)]
  rfl
 | f + 1, pos, h => by
  have hl := size_list s
  unfold idxFuncFrom
  by_cases hp : pos < s.size
  ·rw [if_pos hp]
   have hlt : pos < s.data.toList.length := by omega
   rw [List.drop_eq_getElem_cons hlt, List.all_cons]
   have hg := get_list hp
   by_cases ha : (s[pos]'hp).toNat < 128
   ·rw [decode_ascii s pos hp ha]
    simp only
    rw [hg]
    rw [hg] at ha
    by_cases hn : notPlain (s.data.toList[pos]).toNat = true
    ·rw [if_pos hn]
     have : plainC s.data.toList[pos] = false := by
      unfold plainC
      unfold notPlain at hn
      have := of_decide_eq_true hn
      exact decide_eq_false (by omega)
     rw [this, Bool.false_and, decide_eq_true (by omega)]; rfl
    ·rw [if_neg hn, idx_plain s f (pos + 1) (by omega)]
     have : plainC s.data.toList[pos] = true := by
      unfold plainC
      unfold notPlain at hn
      have : ¬ ((s.data.toList[pos]).toNat < 33 ∨ 126 < (s.data.toList[pos]).toNat) := fun h => hn (decide_eq_true h)
      exact decide_eq_true (by omega)
     rw [this, Bool.true_and]
   ·have hd := decode_high s pos hp (by omega)
    have hn : notPlain (Utf8.decode s pos).1 = true := decide_eq_true (by omega)
    rw [if_pos hn]
    have : plainC s.data.toList[pos] = false := by
     unfold plainC
     rw [← hg]
     exact decide_eq_false (by omega)
    rw [this, Bool.false_and, decide_eq_true (by omega)]; rfl
  ·rw [if_neg hp, List.drop_eq_nil_of_le (by omega)]
   rfl
theorem isPlain_eq (s : ByteArray) : trust_isPlain.f s = some (plainB s) := by
 unfold trust_isPlain.f strings_ContainsFunc_f186.f
 have h := idx_plain s s.size 0 (by omega)
 rw [List.drop_zero] at h
 have h' : decide (0 ≤ idxFunc notPlain true s) = !plainB s := h
 rw [ob_s, h', Bool.not_not]
def wordC (c : UInt8) : Bool := decide (97 ≤ c.toNat ∧ c.toNat ≤ 122) || decide (48 ≤ c.toNat ∧ c.toNat ≤ 57) || decide (c.toNat = 45) || decide (c.toNat = 95)
theorem dropWhile_nil {p : UInt8 → Bool} : ∀ {l : List UInt8}, l.dropWhile p = [] ↔ l.all p = true
 | [] => by simp
 | x :: l => by
  rw [List.dropWhile_cons, List.all_cons]
  cases h : p x with
  | true => simp only [if_true, Bool.true_and]; exact dropWhile_nil
  | false => simp
theorem dropWhile_all {p : UInt8 → Bool} : ∀ {l : List UInt8}, (l.dropWhile p).all p = l.all p
 | [] => rfl
 | x :: l => by
  rw [List.dropWhile_cons]
  cases h : p x with
  | true => simp only [if_true, List.all_cons, h, Bool.true_and]; exact dropWhile_all
  | false => simp only [Bool.false_eq_true, if_false]
theorem trim_nil (l cs : List UInt8) : trimS l cs = [] ↔ l.all (fun c => cs.contains c) = true := by
 have e1 : trimLeftS (trimRightS l cs) cs = ((l.reverse.dropWhile (cs.contains ·)).reverse).dropWhile (cs.contains ·) := rfl
 unfold trimS
 rw [e1, dropWhile_nil, List.all_reverse, dropWhile_all, List.all_reverse]
abbrev wordCs : ByteArray := bs_97_98_99_100_101_102_103_104_105_106_107_108_109_110_111_112_113_114_115_116_117_118_119_120_121_122_48_49_50_51_52_53_54_55_56_57_95_45
theorem wordC_eq (c : UInt8) : wordCs.data.toList.contains c = wordC c := by
 have key : ∀ n : Fin 256, wordCs.data.toList.contains (UInt8.ofNat n.val) = wordC (UInt8.ofNat n.val) := by decide +kernel
 have h := key ⟨c.toNat, c.toNat_lt⟩
 simp only [UInt8.ofNat_toNat] at h
 exact h
def wordB (s : ByteArray) : Bool := if 1 ≤ s.size ∧ s.size ≤ 40 then (decide (97 ≤ (bt s 0).toNat ∧ (bt s 0).toNat ≤ 122) && s.data.toList.all wordC) else false
theorem isWord_eq (s : ByteArray) : config_IsWord.f s = some (wordB s) := by
 unfold config_IsWord.f wordB
 simp only [cb_dec]
 by_cases h1 : ((s.size : Nat) : Int) < 1
 ·rw [if_pos h1, if_neg (by omega)]
 ·by_cases h2 : (40 : Int) < ((s.size : Nat) : Int)
  ·rw [if_neg h1, if_pos h2, if_neg (by omega)]
  ·rw [if_neg h1, if_neg h2, ck_pos (by omega), ck_pos (by omega), if_pos (show 1 ≤ s.size ∧ s.size ≤ 40 by omega)]
   by_cases h3 : ((UInt8.toNat (bt s 0) : Nat) : Int) < 97
   ·rw [if_pos h3, decide_eq_false (by omega), Bool.false_and]
   ·by_cases h4 : (122 : Int) < ((UInt8.toNat (bt s 0) : Nat) : Int)
    ·rw [if_neg h3, if_pos h4, decide_eq_false (by omega), Bool.false_and]
    ·rw [if_neg h3, if_neg h4, decide_eq_true (by omega), Bool.true_and]
     unfold strings_Trim.f
     rw [ck_pos ⟨by omega, by decide, by decide +kernel⟩, ob_s]
     congr 1
     have h5 : (⟨(trimS s.data.toList wordCs.data.toList).toArray⟩ : ByteArray) = bs_ ↔ s.data.toList.all wordC = true := by
      have e : s.data.toList.all wordC = s.data.toList.all (fun c => wordCs.data.toList.contains c) := by
       congr 1; funext c; exact (wordC_eq c).symm
      rw [e, ← trim_nil]
      constructor
      ·intro h
       have := congrArg (fun b : ByteArray => b.data.toList) h
       have h7 : trimS s.data.toList wordCs.data.toList = bs_.data.toList := by simpa using this
       exact h7.trans rfl
      ·intro h
       rw [h]; rfl
     cases h6 : s.data.toList.all wordC with
     | true => exact decide_eq_true (h5.2 h6)
     | false => exact decide_eq_false (fun h => by rw [h5.1 h] at h6; cases h6)
end Go.Proofs.YtahlodpolggeiaaGreatDoor
set_option linter.unusedVariables false
set_option linter.unusedSimpArgs false
namespace Go.Proofs.YtahlodpolggeiaaGreatDoor
open Go Go.Lib Go.Proofs.YtahlodpolggeiaaGreatDoor.Eng
theorem L_ext {s t : ByteArray} (h : s.data.toList = t.data.toList) : s = t := by
 apply ByteArray.ext
 exact Array.toList_inj.1 h
theorem L_app (s t : ByteArray) : (s ++ t).data.toList = s.data.toList ++ t.data.toList := by simp
theorem L_ex (s : ByteArray) (a b : Nat) : (s.extract a b).data.toList = (s.data.toList.take b).drop a := by simp [ByteArray.data_extract, List.drop_take]
end Go.Proofs.YtahlodpolggeiaaGreatDoor
set_option linter.unusedVariables false
set_option linter.unusedSimpArgs false
namespace Go.Proofs.YtahlodpolggeiaaGreatDoor
open Go Go.Lib Go.Proofs.YtahlodpolggeiaaGreatDoor.Eng
theorem L_47 : bs_47_47.data.toList = [47, 47] := rfl
theorem L_58 : bs_58.data.toList = [58] := rfl
theorem hasP_iff {s p : ByteArray} : hasP s p = true ↔ ∃ t, s.data.toList = p.data.toList ++ t := by
 have hl := size_list s
 have hp := size_list p
 unfold hasP
 rw [Bool.and_eq_true, decide_eq_true_eq, decide_eq_true_eq]
 constructor
 ·rintro ⟨h1, h2⟩
  have h3 := congrArg (fun b : ByteArray => b.data.toList) h2
  simp only [L_ex, List.drop_zero] at h3
  exact ⟨s.data.toList.drop p.size, by rw [← h3, List.take_append_drop]⟩
 ·rintro ⟨t, ht⟩
  have hlen := congrArg List.length ht
  rw [List.length_append] at hlen
  refine ⟨by omega, L_ext ?_⟩
  rw [L_ex, List.drop_zero, ht, List.take_append_of_le_length (by omega), List.take_of_length_le (by omega)]
theorem cutP_yes {s p : ByteArray} {t : List UInt8} (h : s.data.toList = p.data.toList ++ t) : (cutP s p).2 = true ∧ (cutP s p).1.data.toList = t := by
 have hl := size_list s
 have hp := size_list p
 have hlen := congrArg List.length h
 rw [List.length_append] at hlen
 unfold cutP
 rw [if_pos (hasP_iff.2 ⟨t, h⟩)]
 refine ⟨rfl, ?_⟩
 show (s.extract p.size s.size).data.toList = t
 rw [L_ex, List.take_of_length_le (by omega), h, List.drop_append_of_le_length (by omega), List.drop_of_length_le (by omega), List.nil_append]
theorem cutP_no {s p : ByteArray} (h : ¬ ∃ t, s.data.toList = p.data.toList ++ t) : cutP s p = (s, false) := by
 unfold cutP
 rw [if_neg (fun h' => h (hasP_iff.1 h'))]
theorem colon (l : List UInt8) : (Lib.indexByte l 58 = -1 ∧ 58 ∉ l) ∨ ∃ a b, l = a ++ 58 :: b ∧ 58 ∉ a ∧ Lib.indexByte l 58 = (a.length : Int) := by
 have h1 := indexByte_lt l 58
 by_cases h : Lib.indexByte l 58 = -1
 ·refine .inl ⟨h, fun hm => ?_⟩
  obtain ⟨k, hk, he⟩ := List.getElem_of_mem hm
  exact indexByte_none h k (by rw [List.getElem?_eq_getElem hk, he])
 ·right
  obtain ⟨o, ho⟩ : ∃ o : Nat, Lib.indexByte l 58 = o := ⟨(Lib.indexByte l 58).toNat, by omega⟩
  obtain ⟨h2, h3⟩ := indexByte_some ho
  have hol : o < l.length := by omega
  refine ⟨l.take o, l.drop (o + 1), ?_, fun hm => ?_, ?_⟩
  ·have : l[o] = 58 := by rw [List.getElem?_eq_getElem hol] at h2; exact Option.some.inj h2
   rw [← this, ← List.drop_eq_getElem_cons hol, List.take_append_drop]
  ·obtain ⟨k, hk, he⟩ := List.getElem_of_mem hm
   have hko : k < o := by have := hk; simp at this; omega
   rw [List.getElem_take] at he
   exact h3 k hko (by rw [List.getElem?_eq_getElem (by omega), he])
  ·rw [ho, List.length_take]; omega
theorem index_of {a b : List UInt8} (h : 58 ∉ a) : Lib.indexByte (a ++ 58 :: b) 58 = (a.length : Int) := by
 rcases colon (a ++ 58 :: b) with ⟨_, h2⟩ | ⟨a', b', h2, h3, h4⟩
 ·exact absurd (by simp) h2
 ·have : a.length = a'.length := by
   have key : ∀ (a a' b b' : List UInt8), 58 ∉ a → 58 ∉ a' → a ++ 58 :: b = a' ++ 58 :: b' → a.length = a'.length := by
    intro a
    induction a with
    | nil =>
     intro a' b b' _ h2 h3
     cases a' with
     | nil => rfl
     | cons x a' =>
      injection h3 with e _
      exact absurd (e ▸ List.mem_cons_self ..) h2
    | cons x a ih =>
     intro a' b b' h1 h2 h3
     cases a' with
     | nil =>
      injection h3 with e _
      exact absurd (e ▸ List.mem_cons_self ..) h1
     | cons y a' =>
      injection h3 with _ e
      have := ih a' b b' (fun h => h1 (List.mem_cons_of_mem _ h)) (fun h => h2 (List.mem_cons_of_mem _ h)) e
      simp [this]
   exact key a a' b b' h h3 h2
  rw [h4, this]
theorem cut_yes {s : ByteArray} {a b : List UInt8} (hs : s.data.toList = a ++ 58 :: b) (h : 58 ∉ a) : (cut58 s).1.data.toList = a ∧ (cut58 s).2.1.data.toList = b ∧ (cut58 s).2.2 = true := by
 have hl := size_list s
 have hi : Lib.indexByte s.data.toList 58 = (a.length : Int) := by rw [hs]; exact index_of h
 have hlen := congrArg List.length hs
 rw [List.length_append, List.length_cons] at hlen
 unfold cut58
 rw [if_pos (by omega), hi, Int.toNat_natCast]
 refine ⟨?_, ?_, rfl⟩
 ·rw [L_ex, List.drop_zero, hs, List.take_append_of_le_length (Nat.le_refl _), List.take_of_length_le (Nat.le_refl _)]
 ·show (s.extract (a.length + 1) s.size).data.toList = b
  rw [L_ex, List.take_of_length_le (by omega), hs]
  have : a ++ 58 :: b = (a ++ [58]) ++ b := by simp
  rw [this, List.drop_append_of_le_length (by simp), List.drop_of_length_le (by simp), List.nil_append]
theorem cut_no {s : ByteArray} (h : 58 ∉ s.data.toList) : cut58 s = (s, bs_, false) := by
 rcases colon s.data.toList with ⟨h1, _⟩ | ⟨a, b, h1, _⟩
 ·unfold cut58
  rw [h1, if_neg (by decide)]
 ·exact absurd (by rw [h1]; simp) h
def IsLab (s : ByteArray) : Prop := ∃ x y : ByteArray, s.data.toList = [47, 47] ++ (x.data.toList ++ 58 :: y.data.toList) ∧ 58 ∉ x.data.toList ∧ labF (x, y) = 0
theorem whole_iff {s : ByteArray} (hs : s.size ≤ BIG) : ∃ b, script_IsWhole.f s = some b ∧ (b = true ↔ IsLab s) := by
 have hb : BIG = 140737488355328 := rfl
 have hl := size_list s
 have hw : ∀ a : ByteArray × ByteArray, a.1.size ≤ s.size → a.2.size ≤ s.size → script_Whole.f a = some (((bs_47_47 ++ a.1) ++ bs_58) ++ a.2) := fun a h1 h2 => by
  unfold script_Whole.f
  have e1 : bs_47_47.size = 2 := rfl
  have e2 : bs_58.size = 1 := rfl
  simp only [ByteArray.size_append, e1, e2]
  rw [ck_pos (by omega), ck_pos (by omega), ck_pos (by omega)]
 have hLw : ∀ a b : ByteArray, (((bs_47_47 ++ a) ++ bs_58) ++ b).data.toList = [47, 47] ++ (a.data.toList ++ 58 :: b.data.toList) := fun a b => by
  rw [L_app, L_app, L_app, L_47, L_58]; simp
 unfold script_IsWhole.f script_ReadLabel.f
 simp only [decide_true, Bool.not_true, cb_f, cutPrefix_eq, ob_s]
 by_cases hp : ∃ t, s.data.toList = bs_47_47.data.toList ++ t
 ·obtain ⟨t, ht⟩ := hp
  obtain ⟨c1, c2⟩ := cutP_yes ht
  have hsz : (cutP s bs_47_47).1.size ≤ s.size := by
   rw [size_list, c2]
   have := congrArg List.length ht
   rw [List.length_append] at this
   omega
  rw [L_47] at ht
  simp only [c1, cb_t, cut_eq (s := (cutP s bs_47_47).1) (by omega), ob_s]
  rcases colon (cutP s bs_47_47).1.data.toList with ⟨_, hno⟩ | ⟨a, b, h1, h2, _⟩
  ·rw [cut_no hno]
   obtain ⟨r, r1, r2⟩ := last_some (s := (cutP s bs_47_47).1) (by omega)
   simp only [Bool.not_false, cb_t, r1, ob_s, checkLabel_eq, cb_not, cb_dec]
   refine ⟨false, ?_, fun h => (by cases h), fun ⟨x, y, h3, _, _⟩ => ?_⟩
   ·by_cases h0 : labF ((cutP s bs_47_47).1, r) = 0
    ·rw [if_pos h0]
     simp only [ob_s, if_true]
     rw [hw _ hsz (by show r.size ≤ _; omega), ob_s]
     refine congrArg some (decide_eq_false fun e => ?_)
     have e2 := congrArg (fun b : ByteArray => b.data.toList) e
     simp only [hLw] at e2
     rw [ht, c2] at e2
     have := congrArg List.length e2
     simp at this
    ·rw [if_neg h0]
     simp only [ob_s]
     rw [if_neg (by decide)]
   ·rw [ht, List.append_cancel_left_eq] at h3
    rw [c2, h3] at hno
    exact (hno (by simp)).elim
  ·obtain ⟨e1, e2, e3⟩ := cut_yes h1 h2
   have hs1 : (cut58 (cutP s bs_47_47).1).1.size ≤ s.size ∧ (cut58 (cutP s bs_47_47).1).2.1.size ≤ s.size := by
    have := congrArg List.length h1
    rw [List.length_append, List.length_cons] at this
    have e4 := size_list (cutP s bs_47_47).1
    rw [size_list, size_list (cut58 (cutP s bs_47_47).1).2.1, e1, e2]
    omega
   simp only [e3, Bool.not_true, cb_f, checkLabel_eq, ob_s, cb_not, cb_dec]
   by_cases h0 : labF ((cut58 (cutP s bs_47_47).1).1, (cut58 (cutP s bs_47_47).1).2.1) = 0
   ·rw [if_pos h0]
    simp only [ob_s, if_true]
    rw [hw _ hs1.1 hs1.2, ob_s]
    refine ⟨true, congrArg some (decide_eq_true (L_ext ?_)), fun _ => ⟨_, _, ?_, ?_, h0⟩, fun _ => rfl⟩
    ·rw [hLw, e1, e2, ← h1, c2, ht]
    ·rw [e1, e2, ← h1, c2, ht]
    ·rw [e1]; exact h2
   ·rw [if_neg h0]
    simp only [ob_s]
    rw [if_neg (by decide)]
    refine ⟨false, rfl, fun h => (by cases h), fun ⟨x, y, h3, h4, h5⟩ => ?_⟩
    rw [ht, List.append_cancel_left_eq, ← c2] at h3
    obtain ⟨f1, f2, _⟩ := cut_yes h3 h4
    rw [L_ext f1, L_ext f2] at h0
    exact absurd h5 h0
 ·have hnl : ¬ IsLab s := fun ⟨x, y, h3, _, _⟩ => hp ⟨_, h3⟩
  rw [cutP_no hp]
  simp only [cb_f]
  have fin : ∀ a : ByteArray × ByteArray, a.1.size ≤ s.size → a.2.size ≤ s.size → (ob (ob (script_CheckLabel.f a) fun r16 => (cb (!decide (r16 = (0 : Int))) (some ((bs_, bs_), (10 : Int))) (some (a, (0 : Int))))) fun r1 => (cb (decide (r1.2 = (0 : Int))) (ob (script_Whole.f r1.1) fun r2 => (some (decide (r2 = s)))) (some false))) = some false := fun a h1 h2 => by
   rw [checkLabel_eq, ob_s, cb_not, cb_dec]
   by_cases h0 : labF a = 0
   ·rw [if_pos h0]
    simp only [ob_s, cb_dec, if_true]
    rw [hw a h1 h2, ob_s]
    refine congrArg some (decide_eq_false fun e => ?_)
    have e2 := congrArg (fun b : ByteArray => b.data.toList) e
    simp only [hLw] at e2
    exact hp ⟨_, e2.symm⟩
   ·rw [if_neg h0]
    simp only [ob_s, cb_dec]
    rw [if_neg (by decide)]
  refine ⟨false, ?_, fun h => (by cases h), fun h => absurd h hnl⟩
  by_cases hq : ∃ t, s.data.toList = bs_58.data.toList ++ t
  ·obtain ⟨t, ht⟩ := hq
   obtain ⟨c1, c2⟩ := cutP_yes ht
   rw [c1, cb_t]
   refine fin (bs_, (cutP s bs_58).1) (Nat.zero_le _) ?_
   show (cutP s bs_58).1.size ≤ _
   rw [size_list, c2]
   have := congrArg List.length ht
   rw [List.length_append] at this
   omega
  ·rw [cutP_no hq, cb_f]
   exact fin (bs_, bs_) (Nat.zero_le _) (Nat.zero_le _)
end Go.Proofs.YtahlodpolggeiaaGreatDoor
set_option linter.unusedVariables false
set_option linter.unusedSimpArgs false
namespace Go.Proofs.YtahlodpolggeiaaGreatDoor
open Go Go.Lib Go.Proofs.YtahlodpolggeiaaGreatDoor.Eng
abbrev Wr := ByteArray × (ByteArray × ((List ByteArray) × (Int × Int)))
theorem ck_neg {β : Type} {c : Prop} {a : Option β} (h : ¬ c) : ck c a = none := by unfold ck; rw [if_neg h]
theorem prefix_eq (s p : ByteArray) : strings_HasPrefix.f s p = some (hasP s p) := by
 unfold strings_HasPrefix.f
 rw [hasPrefix_eq]; rfl
theorem within_eq (a b c : Int) : trust_within.f a b c = some (decide (b ≤ a ∧ a ≤ c)) := by
 unfold trust_within.f
 rw [cb_dec]
 by_cases h : b ≤ a <;> simp [h]
end Go.Proofs.YtahlodpolggeiaaGreatDoor
set_option linter.unusedVariables false
set_option linter.unusedSimpArgs false
namespace Go.Proofs.YtahlodpolggeiaaGreatDoor
open Go Go.Lib Go.Proofs.YtahlodpolggeiaaGreatDoor.Eng
def labs (g : List Wr) : List ByteArray := g.map (·.1)
theorem labs_get {g : List Wr} {k : Nat} (h : k < g.length) : (labs g)[k]'(by unfold labs; simpa using h) = g[k].1 := by simp [labs]
theorem find1_eq (n : Wr) (s : ByteArray) : trust_find_1.f n s = some (cmpS n.1 s) := rfl
theorem half {a b : Nat} (ha : a ≤ 100000000000) (hb : b ≤ 100000000000) : IntKind.i64.wrap (Int.fdiv (IntKind.u64.wrap ((a : Int) + (b : Int))) (2 ^ min (Int.toNat (1 : Int)) (IntKind.bits .u64))) = ((a + b) / 2 : Nat) := by
 have e1 : IntKind.u64.wrap ((a : Int) + (b : Int)) = ((a + b : Nat) : Int) := by
  simp only [IntKind.wrap, IntKind.bits, IntKind.signed, Bool.false_and, Bool.false_eq_true, if_false]
  have e : (2 : Int) ^ 64 = 18446744073709551616 := by decide
  rw [e]; omega
 have e2 : (2 : Int) ^ min (Int.toNat (1 : Int)) (IntKind.bits .u64) = 2 := by decide
 rw [e1, e2]
 have e3 : Int.fdiv ((a + b : Nat) : Int) 2 = ((a + b) / 2 : Nat) := by
  rw [Int.fdiv_eq_ediv_of_nonneg _ (by decide)]; omega
 rw [e3]
 exact IntWalk.i64_in _ ⟨by omega, by omega⟩
theorem find_ok {g : List Wr} (hl : g.length ≤ 1000) (hr : Rising (labs g)) (s : ByteArray) : ∃ r, trust_find.f g s = some r ∧ ((r.2 = false ∧ ∀ k : Nat, ∀ h : k < g.length, g[k].1 ≠ s) ∨ ∃ k : Nat, ∃ h : k < g.length, r = (g[k], true) ∧ g[k].1 = s) := by
 have go : ∀ (n a b : Nat), b - a = n → a ≤ b → b ≤ g.length → (∀ k : Nat, ∀ h : k < g.length, k < a → cmpS g[k].1 s < 0) → (∀ k : Nat, ∀ h : k < g.length, b ≤ k → ¬ cmpS g[k].1 s < 0) →
   ∃ c : Nat, slices_BinarySearchFunc_api_Writer_api_Writer_string_f123.l0 g s (a : Int) (b : Int) = some (c : Int) ∧ c ≤ g.length ∧ (∀ k : Nat, ∀ h : k < g.length, k < c → cmpS g[k].1 s < 0) ∧ (∀ k : Nat, ∀ h : k < g.length, c ≤ k → ¬ cmpS g[k].1 s < 0) := by
  intro n
  induction n using Nat.strongRecOn with
  | _ n ih =>
   intro a b hn hab hb h1 h2
   rcases Nat.lt_or_ge a b with hlt | hge
   ·have hm : (a + b) / 2 < g.length := by omega
    have hh := half (a := a) (b := b) (by omega) (by omega)
    have hmono : ∀ i j : Nat, ∀ hi : i < g.length, ∀ hj : j < g.length, i < j → cmpS g[i].1 g[j].1 < 0 := fun i j hi hj hij => by
     have := hr i j (by unfold labs; simpa using hj) hij
     rw [labs_get hi, labs_get hj] at this
     exact this
    by_cases hc : cmpS g[(a + b) / 2].1 s < 0
    ·obtain ⟨c, h3, h4⟩ := ih (b - ((a + b) / 2 + 1)) (by omega) ((a + b) / 2 + 1) b rfl (by omega) hb (fun k hk hka => by
      rcases Nat.lt_or_ge k ((a + b) / 2) with h | h
      ·exact cmpS_trans (hmono k _ hk hm h) hc
      ·have : k = (a + b) / 2 := by omega
       subst this; exact hc) h2
     refine ⟨c, (loopX_next ?_).trans h3, h4⟩
     simp only [slices_BinarySearchFunc_api_Writer_api_Writer_string_f123.s0, cb_dec, hh, rd_lt hm, find1_eq, ob_s]
     rw [if_pos (by omega), ck_in (by omega) (by omega), ck_pos (by omega), if_pos hc, ck_in (by omega) (by omega)]
     rfl
    ·obtain ⟨c, h3, h4⟩ := ih ((a + b) / 2 - a) (by omega) a ((a + b) / 2) rfl (by omega) (by omega) h1 (fun k hk hka => by
      intro h
      rcases Nat.lt_or_ge ((a + b) / 2) k with h5 | h5
      ·exact hc (cmpS_trans (hmono _ k hm hk h5) h)
      ·have : k = (a + b) / 2 := by omega
       subst this; exact hc h)
     refine ⟨c, (loopX_next ?_).trans h3, h4⟩
     simp only [slices_BinarySearchFunc_api_Writer_api_Writer_string_f123.s0, cb_dec, hh, rd_lt hm, find1_eq, ob_s]
     rw [if_pos (by omega), ck_in (by omega) (by omega), ck_pos (by omega), if_neg hc]
   ·have e : a = b := by omega
    subst e
    refine ⟨a, loopX_done ?_, hb, h1, h2⟩
    simp only [slices_BinarySearchFunc_api_Writer_api_Writer_string_f123.s0, cb_dec]
    rw [if_neg (by omega)]
 obtain ⟨c, h1, h2, h3, h4⟩ := go _ 0 g.length rfl (Nat.zero_le _) (Nat.le_refl _) (fun k _ h => absurd h (Nat.not_lt_zero _)) (fun k hk h => by omega)
 rw [show ((0 : Nat) : Int) = 0 from rfl] at h1
 unfold trust_find.f slices_BinarySearchFunc_api_Writer_api_Writer_string_f123.f
 simp only [h1, ob_s, cb_dec]
 by_cases hc : c < g.length
 ·rw [if_pos (by omega), ck_pos (by omega)]
  simp only [rd_lt hc, find1_eq, ob_s]
  by_cases h0 : cmpS g[c].1 s = 0
  ·simp only [h0, decide_true, Bool.not_true, cb_f]
   rw [ck_pos (by omega)]
   exact ⟨_, rfl, .inr ⟨c, hc, rfl, (cmpS_eq0 _ _).1 h0⟩⟩
  ·simp only [h0, decide_false, Bool.not_false, cb_t]
   refine ⟨_, rfl, .inl ⟨rfl, fun k hk e => ?_⟩⟩
   have hz : cmpS g[k].1 s = 0 := (cmpS_eq0 _ _).2 e
   rcases Nat.lt_trichotomy k c with h | h | h
   ·have := h3 k hk h; omega
   ·subst h; exact h0 hz
   ·have h5 := hr c k (by unfold labs; simpa using hk) h
    rw [labs_get hc, labs_get hk, e] at h5
    exact h4 c hc (Nat.le_refl _) h5
 ·rw [if_neg (by omega)]
  simp only [ob_s, Bool.not_false, cb_t]
  refine ⟨_, rfl, .inl ⟨rfl, fun k hk e => ?_⟩⟩
  have hz : cmpS g[k].1 s = 0 := (cmpS_eq0 _ _).2 e
  have := h3 k hk (by omega)
  omega
def mayB (w : Wr) (s : ByteArray) (t : Int) : Bool := decide (w.2.2.2.1 ≤ t) && (decide (t < w.2.2.2.2) && w.2.2.1.any (fun p => hasP s p))
theorem may_eq {w : Wr} (hw : w.2.2.1.length ≤ 100000000000) (s : ByteArray) (t : Int) : trust_may.f w s t = some (mayB w s t) := by
 have go : ∀ (n k : Nat), w.2.2.1.length - k = n → ∃ r, slices_IndexFunc_string_string_f129.l0 w.2.2.1 s (w.2.2.1.length : Int) (k : Int) = some r ∧ ((r = .inr () ∧ (w.2.2.1.drop k).any (fun p => hasP s p) = false) ∨ ∃ i : Nat, r = .inl (i : Int) ∧ (w.2.2.1.drop k).any (fun p => hasP s p) = true) := by
  intro n
  induction n with
  | zero =>
   intro k hn
   refine ⟨.inr (), loopX_done ?_, .inl ⟨rfl, by rw [List.drop_eq_nil_of_le (by omega)]; rfl⟩⟩
   simp only [slices_IndexFunc_string_string_f129.s0, cb_dec]
   rw [if_neg (by omega)]
  | succ n ih =>
   intro k hn
   have hlt : k < w.2.2.1.length := by omega
   rw [List.drop_eq_getElem_cons hlt, List.any_cons]
   cases e : hasP s w.2.2.1[k] with
   | true =>
    refine ⟨.inl (k : Int), loopX_done ?_, .inr ⟨k, rfl, rfl⟩⟩
    simp only [slices_IndexFunc_string_string_f129.s0, cb_dec, rd_lt hlt, trust_may_1.f, prefix_eq, e, ob_s, cb_t]
    rw [if_pos (by omega), ck_pos (by omega)]
   | false =>
    obtain ⟨r, h1, h2⟩ := ih (k + 1) (by omega)
    refine ⟨r, (loopX_next ?_).trans h1, by simpa using h2⟩
    simp only [slices_IndexFunc_string_string_f129.s0, cb_dec, rd_lt hlt, trust_may_1.f, prefix_eq, e, ob_s, cb_f]
    rw [if_pos (by omega), ck_pos (by omega), ck_in (by omega) (by omega)]
    rfl
 obtain ⟨r, h1, h2⟩ := go _ 0 rfl
 rw [show ((0 : Nat) : Int) = 0 from rfl, List.drop_zero] at *
 have hc : slices_ContainsFunc_string_string_f129.f w.2.2.1 s = some (w.2.2.1.any (fun p => hasP s p)) := by
  unfold slices_ContainsFunc_string_string_f129.f slices_IndexFunc_string_string_f129.f
  simp only [h1, ob_s]
  rcases h2 with ⟨rfl, h3⟩ | ⟨i, rfl, h3⟩
  ·rw [h3]; rfl
  ·rw [h3]
   simp only [caseS_l, ob_s]
   rw [decide_eq_true (by omega)]
 unfold trust_may.f mayB
 simp only [hc, ob_s]
 cases decide (w.2.2.2.1 ≤ t) with
 | false => rfl
 | true =>
  cases decide (t < w.2.2.2.2) with
  | false => rfl
  | true => rfl
end Go.Proofs.YtahlodpolggeiaaGreatDoor
set_option linter.unusedVariables false
set_option linter.unusedSimpArgs false
namespace Go.Proofs.YtahlodpolggeiaaGreatDoor
open Go Go.Lib Go.Proofs.YtahlodpolggeiaaGreatDoor.Eng
theorem ck_dec {β : Type} {c : Prop} [h : Decidable c] {a : Option β} : ck c a = if c then a else none := by
 by_cases hc : c
 ·rw [ck_pos hc, if_pos hc]
 ·rw [ck_neg hc, if_neg hc]
local instance (x : Int) : Decidable (InR x) := inferInstanceAs (Decidable (_ ∧ _))
theorem split_none {s : ByteArray} (hs : s.size ≤ 100000000000) (h : Lib.countByte s.data.toList 47 = 0) : splitL s = [s] := by
 have h1 : strings_Split.f s bs_47 = some [s] := by
  have hcnt : strings_Count.f s bs_47 = some 0 := by
   unfold strings_Count.f
   rw [ck_pos (by rfl)]
   show some ((Lib.countByte s.data.toList 47 : Nat) : Int) = _
   rw [h]; rfl
  have l : strings_genSplit.l0 bs_47 0 (1 - 1) s 0 (List.replicate 1 ByteArray.empty) = some (s, 0, List.replicate 1 ByteArray.empty) := loopX_done (by rfl)
  have e : ((min (0 + 1) (((s.size : Nat) : Int) + 1) : Int)) = 1 := by omega
  have e1 : Int.toNat 1 = 1 := rfl
  unfold strings_Split.f strings_genSplit.f
  simp only [hcnt, ob_s, e, e1, l]
  rw [show decide ((-1 : Int) = 0) = false from rfl, cb_f, show decide (bs_47 = bs_) = false from rfl, cb_f, show decide ((-1 : Int) < 0) = true from rfl, cb_t, ck_in (by omega) (by omega), ck_in (by omega) (by omega), ck_pos (by omega), ck_in (by omega) (by omega)]
  simp only [ck_dec]
  rfl
 unfold splitL
 rw [h1]; rfl
abbrev W1 : Wr := (bs_97, (bs_115, ([bs_47_47_97_112_112], (0, 5))))
theorem writer1 : trust_checkWriter.f W1 = some 0 := by
 have l : trust_checkWriter.l0 W1 [bs_47_47_97_112_112] 1 0 = some (.inr ()) := by
  refine (loopX_next (x' := 1) ?_).trans (loopX_done (by rfl))
  have e : rd ByteArray.empty [bs_47_47_97_112_112] 0 = bs_47_47_97_112_112 := rfl
  simp only [trust_checkWriter.s0, e, prefix_eq, isPlain_eq, ob_s, show hasP bs_47_47_97_112_112 bs_47_47 = true from by decide, show plainB bs_47_47_97_112_112 = true from by decide, ck_dec]
  rfl
 have s1 : trust_isSecret.f bs_115 = some true := by
  unfold trust_isSecret.f
  rw [isPlain_eq, show plainB bs_115 = true from by decide]
  rfl
 unfold trust_checkWriter.f
 simp only [isWord_eq, show wordB bs_97 = true from by decide, s1, ob_s, within_eq]
 show cb _ _ (cb _ _ (cb _ _ (ob (trust_checkWriter.l0 W1 [bs_47_47_97_112_112] 1 0) _))) = _
 rw [l]
 rfl
theorem check1 : trust_CheckWriters.f [W1] = some 0 := by
 have l : trust_CheckWriters.l0 [W1] [W1] 1 0 = some (.inr ()) := by
  refine (loopX_next (x' := 1) ?_).trans (loopX_done (by rfl))
  have e : rd (ByteArray.empty, (ByteArray.empty, (([] : List ByteArray), ((0 : Int), (0 : Int))))) [W1] 0 = W1 := rfl
  simp only [trust_CheckWriters.s0, e, writer1, ob_s, ck_dec]
  rfl
 unfold trust_CheckWriters.f
 show cb _ _ (ob (trust_CheckWriters.l0 [W1] [W1] 1 0) _) = _
 rw [l]
 rfl
def bs_ap : ByteArray := ⟨#[97, 112, 112, 108, 101]⟩
def bs_x : ByteArray := ⟨#[120]⟩
theorem whole1 : script_IsWhole.f bs_47_47_97_112_112_108_101_58_120 = some true := by
 obtain ⟨b, h1, h2⟩ := whole_iff (s := bs_47_47_97_112_112_108_101_58_120) (by decide)
 have : b = true := h2.2 ⟨bs_ap, bs_x, rfl, by decide, by
  unfold labF isPathB
  rw [split_none (s := bs_ap) (by decide) (by decide), split_none (s := bs_x) (by decide) (by decide)]
  rfl⟩
 rw [h1, this]
theorem may1 (t : Int) (h0 : 0 ≤ t) (h1 : t ≤ 1000000000) : trust_May.f [W1] bs_97 bs_47_47_97_112_112_108_101_58_120 t = some (mayB W1 bs_47_47_97_112_112_108_101_58_120 t, 0) := by
 have hr : Rising (labs [W1]) := fun i j h h' => by
  have : j < 1 := h
  omega
 obtain ⟨r, r1, r2⟩ := find_ok (g := [W1]) (by decide) hr bs_97
 have hr2 : r = (W1, true) := by
  rcases r2 with ⟨_, h⟩ | ⟨k, hk, e, _⟩
  ·exact absurd rfl (h 0 (by decide))
  ·have : k = 0 := by simp at hk; exact hk
   subst this
   exact e
 unfold trust_May.f
 simp only [check1, ob_s, isWord_eq, show wordB bs_97 = true from by decide, whole1, within_eq, decide_eq_true (show 0 ≤ t ∧ t ≤ 1000000000 from ⟨h0, h1⟩), r1, hr2, may_eq (w := W1) (by decide)]
 rfl
theorem awake11 : law11_awake.f = some true := by
 have m1 : mayB W1 bs_47_47_97_112_112_108_101_58_120 4 = true := by decide
 have m2 : mayB W1 bs_47_47_97_112_112_108_101_58_120 5 = false := by decide
 have a1 := may1 4 (by decide) (by decide)
 have a2 := may1 5 (by decide) (by decide)
 rw [m1] at a1
 rw [m2] at a2
 unfold law11_awake.f
 show ob (trust_May.f [W1] bs_97 bs_47_47_97_112_112_108_101_58_120 4) _ = _
 rw [a1, ob_s]
 show ob (trust_May.f [W1] bs_97 bs_47_47_97_112_112_108_101_58_120 5) _ = _
 rw [a2, ob_s]
 rfl
end Go.Proofs.YtahlodpolggeiaaGreatDoor
set_option linter.unusedVariables false
set_option linter.unusedSimpArgs false
namespace Go.Proofs.YtahlodpolggeiaaGreatDoor
open Go Go.Lib Go.Proofs.YtahlodpolggeiaaGreatDoor.Eng
abbrev Cl := ByteArray × (ByteArray × (ByteArray × (ByteArray × (Int × ((List ByteArray) × ByteArray)))))
def szC (c : Cl) : Prop := c.2.1.size ≤ BIG
abbrev hexCs : ByteArray := bs_48_49_50_51_52_53_54_55_56_57_97_98_99_100_101_102
def digC (c : UInt8) : Bool := decide (48 ≤ c.toNat ∧ c.toNat ≤ 57) || decide (97 ≤ c.toNat ∧ c.toNat ≤ 102)
theorem digC_eq (c : UInt8) : hexCs.data.toList.contains c = digC c := by
 have h : ((List.range 256).all fun n => hexCs.data.toList.contains (UInt8.ofNat n) == digC (UInt8.ofNat n)) = true := by decide +kernel
 have := List.all_eq_true.1 h c.toNat (List.mem_range.2 c.toNat_lt)
 simpa using this
def digB (s : ByteArray) : Bool := decide (s.size = 16) && s.data.toList.all digC
theorem isDigest_eq (s : ByteArray) : blob_IsDigest.f s = some (digB s) := by
 unfold blob_IsDigest.f digB
 simp only [cb_dec]
 by_cases h : s.size = 16
 ·rw [if_pos (by omega)]
  unfold strings_Trim.f
  rw [ck_pos ⟨by omega, by decide, by decide +kernel⟩, ob_s]
  congr 1
  rw [decide_eq_true h, Bool.true_and]
  have e : (⟨(trimS s.data.toList hexCs.data.toList).toArray⟩ = bs_) ↔ s.data.toList.all digC = true := by
   rw [show (s.data.toList.all digC = true) ↔ (s.data.toList.all (fun c => hexCs.data.toList.contains c) = true) by simp only [digC_eq], ← trim_nil]
   constructor
   ·intro h
    have := congrArg (fun b : ByteArray => b.data.toList) h
    simpa [bs_] using this
   ·intro h
    rw [h]; rfl
  cases hh : s.data.toList.all digC with
  | true => exact decide_eq_true (e.2 hh)
  | false => exact decide_eq_false (fun h => by rw [e.1 h] at hh; cases hh)
 ·rw [if_neg (by omega), decide_eq_false h]; rfl
theorem digB_size {s : ByteArray} (h : digB s = true) : s.size = 16 := by
 unfold digB at h
 simp only [Bool.and_eq_true, decide_eq_true_eq] at h
 exact h.1
theorem wordB_size {s : ByteArray} (h : wordB s = true) : s.size ≤ 40 := by
 unfold wordB at h
 split at h
 ·rename_i h1; exact h1.2
 ·cases h
theorem usesLoop {c : Cl} (hn : c.2.2.2.2.2.1.length ≤ 50) : ∀ (n k : Nat), c.2.2.2.2.2.1.length - k = n → ∃ r, trust_checkClaimed.l0 c c.2.2.2.2.2.1 (c.2.2.2.2.2.1.length : Int) (k : Int) = some r ∧ ((r = .inr () ∧ ∀ j : Nat, ∀ h : j < c.2.2.2.2.2.1.length, k ≤ j → digB c.2.2.2.2.2.1[j] = true) ∨ ∃ f : Int, f ≠ 0 ∧ r = .inl f) := by
 intro n
 induction n with
 | zero =>
  intro k hk
  refine ⟨.inr (), loopX_done ?_, .inl ⟨rfl, fun j h1 h2 => by omega⟩⟩
  simp only [trust_checkClaimed.s0, cb_dec]
  rw [if_neg (by omega)]
 | succ n ih =>
  intro k hk
  have hlt : k < c.2.2.2.2.2.1.length := by omega
  obtain ⟨r, h1, h2⟩ := ih (k + 1) (by omega)
  have e : ((k : Int) + 1) = ((k + 1 : Nat) : Int) := by omega
  by_cases hd : digB c.2.2.2.2.2.1[k] = true
  ·have next : trust_checkClaimed.s0 c c.2.2.2.2.2.1 (c.2.2.2.2.2.1.length : Int) (k : Int) = some (.inl ((k + 1 : Nat) : Int)) ∨ trust_checkClaimed.s0 c c.2.2.2.2.2.1 (c.2.2.2.2.2.1.length : Int) (k : Int) = some (.inr (.inl 8)) := by
    simp only [trust_checkClaimed.s0, cb_dec]
    rw [if_pos (by omega), ck_pos ⟨by omega, by omega⟩, rd_lt hlt]
    simp only [isDigest_eq, hd, ob_s, Bool.not_true, cb_f]
    by_cases h0 : 0 < k
    ·rw [if_pos (by omega), ck_in (by omega) (by omega), ck_pos ⟨by omega, by omega⟩]
     cases bless c.2.2.2.2.2.1[k] (rd ByteArray.empty c.2.2.2.2.2.1 ((k : Int) - 1)) || decide (c.2.2.2.2.2.1[k] = rd ByteArray.empty c.2.2.2.2.2.1 ((k : Int) - 1)) with
     | true => exact .inr rfl
     | false => rw [cb_f, ck_in (by omega) (by omega), e]; exact .inl rfl
    ·rw [if_neg (by omega), ck_in (by omega) (by omega), e]; exact .inl rfl
   rcases next with hs | hs
   ·refine ⟨r, (loopX_next hs).trans h1, ?_⟩
    rcases h2 with ⟨h2, h3⟩ | h2
    ·refine .inl ⟨h2, fun j hj hkj => ?_⟩
     rcases Nat.eq_or_lt_of_le hkj with rfl | h4
     ·exact hd
     ·exact h3 j hj h4
    ·exact .inr h2
   ·exact ⟨.inl 8, loopX_done hs, .inr ⟨8, by decide, rfl⟩⟩
  ·refine ⟨.inl 3, loopX_done ?_, .inr ⟨3, by decide, rfl⟩⟩
   simp only [trust_checkClaimed.s0, cb_dec]
   rw [if_pos (by omega), ck_pos ⟨by omega, by omega⟩, rd_lt hlt]
   simp only [isDigest_eq, Bool.not_eq_true _ ▸ hd, ob_s]
   rfl
structure OkC (c : Cl) : Prop where
 key : digB c.1 = true
 label : c.2.1.size ≤ 403
 result : digB c.2.2.1 = true
 writer : wordB c.2.2.2.1 = true
 at0 : 0 ≤ c.2.2.2.2.1
 at1 : c.2.2.2.2.1 ≤ 1000000000
 many : c.2.2.2.2.2.1.length ≤ 50
 uses : ∀ y ∈ c.2.2.2.2.2.1, y.size = 16
 sign : c.2.2.2.2.2.2.size ≤ 16
theorem IsLab.size {s : ByteArray} (h : IsLab s) : s.size ≤ 403 := by
 obtain ⟨x, y, h1, h2, h3⟩ := h
 have hp : ∀ z : ByteArray, isPathB z = true → z.size ≤ 200 := fun z hz => by
  unfold isPathB at hz
  split at hz
  ·rename_i h; exact h.2
  ·cases hz
 unfold labF at h3
 split at h3
 ·rename_i h4
  have hx : x.size ≤ 200 := by
   rcases h4.1 with h5 | h5
   ·have h5 : x = bs_ := h5
    rw [h5]; decide
   ·exact hp _ h5
  have hy := hp _ h4.2
  have hl := congrArg List.length h1
  simp only [List.length_append, List.length_cons, List.length_nil] at hl
  rw [← size_list, ← size_list, ← size_list] at hl
  have hx : ByteArray.size x ≤ 200 := hx
  have hy : ByteArray.size y ≤ 200 := hy
  omega
 ·cases h3
theorem checkC {c : Cl} (hs : szC c) : ∃ f : Int, trust_checkClaimed.f c = some f ∧ (f = 0 → OkC c) := by
 obtain ⟨b, hb, hbl⟩ := whole_iff (s := c.2.1) hs
 unfold trust_checkClaimed.f
 simp only [isDigest_eq, isWord_eq, within_eq, hb, ob_s, cb_not]
 cases g1 : digB c.1 with
 | false => exact ⟨3, rfl, fun h => by cases h⟩
 | true =>
  cases b with
  | false => exact ⟨10, rfl, fun h => by cases h⟩
  | true =>
   have gl := IsLab.size (hbl.1 rfl)
   cases g3 : digB c.2.2.1 with
   | false => exact ⟨3, rfl, fun h => by cases h⟩
   | true =>
    cases g4 : wordB c.2.2.2.1 with
    | false => exact ⟨5, rfl, fun h => by cases h⟩
    | true =>
     simp only [cb_t, cb_dec]
     by_cases g5 : (0 : Int) ≤ c.2.2.2.2.1 ∧ c.2.2.2.2.1 ≤ 1000000000
     ·rw [if_pos g5]
      by_cases g6 : 50 < c.2.2.2.2.2.1.length
      ·rw [if_pos (by omega)]
       exact ⟨2, rfl, fun h => by cases h⟩
      ·rw [if_neg (by omega)]
       obtain ⟨r, h8, h9⟩ := usesLoop (c := c) (by omega) _ 0 rfl
       rw [show ((0 : Nat) : Int) = 0 from rfl] at h8
       rw [h8, ob_s]
       rcases h9 with ⟨rfl, h9⟩ | ⟨f, hf, rfl⟩
       ·rw [caseS_r]
        by_cases g7 : c.2.2.2.2.2.2 = bs_
        ·rw [if_pos g7]
         refine ⟨0, rfl, fun _ => ⟨g1, gl, g3, g4, g5.1, g5.2, by omega, fun y hy => ?_, by rw [g7]; decide⟩⟩
         obtain ⟨j, hj, rfl⟩ := List.getElem_of_mem hy
         exact digB_size (h9 j hj (Nat.zero_le _))
        ·rw [if_neg g7]
         cases g8 : digB c.2.2.2.2.2.2 with
         | false => exact ⟨3, rfl, fun h => by cases h⟩
         | true =>
          refine ⟨0, rfl, fun _ => ⟨g1, gl, g3, g4, g5.1, g5.2, by omega, fun y hy => ?_, by rw [digB_size g8]; decide⟩⟩
          obtain ⟨j, hj, rfl⟩ := List.getElem_of_mem hy
          exact digB_size (h9 j hj (Nat.zero_le _))
       ·rw [caseS_l]
        exact ⟨f, rfl, fun h => absurd h hf⟩
     ·rw [if_neg g5]
      exact ⟨1, rfl, fun h => by cases h⟩
theorem join_le (n : Nat) : ∀ xs : List ByteArray, (∀ x ∈ xs, x.size ≤ n) → (joinB xs bs_32).size ≤ (n + 1) * xs.length
 | [], _ => Nat.le_refl _
 | x :: r, h => by
  have hs : (joinB (x :: r) bs_32).size = x.size + (r.length + Lib.lens (r.map (·.data.toList))) := by
   have e : (joinB (x :: r) bs_32).size = (Lib.join ((x :: r).map (·.data.toList)) [32]).length := List.size_toArray ..
   rw [e, List.map_cons, Lib.join_cons, List.length_append, Lib.joinTail_length, ← size_list]
   simp
  have hr : ∀ l : List ByteArray, (∀ y ∈ l, y.size ≤ n) → Lib.lens (l.map (·.data.toList)) ≤ n * l.length := by
   intro l
   induction l with
   | nil => intro _; exact Nat.le_refl _
   | cons y l ih =>
    intro h
    have h1 := ih (fun z hz => h z (List.mem_cons_of_mem _ hz))
    have h2 := h y (List.mem_cons_self ..)
    rw [size_list] at h2
    simp only [Lib.lens, List.map_cons, List.sum_cons, List.length_cons, Nat.mul_succ] at h1 ⊢
    omega
  have h1 := hr r (fun z hz => h z (List.mem_cons_of_mem _ hz))
  have h2 := h x (List.mem_cons_self ..)
  rw [hs, List.length_cons, Nat.mul_succ, Nat.add_mul]
  omega
noncomputable def claimB (c : Cl) : ByteArray := joinB ([c.1, c.2.1, c.2.2.1, c.2.2.2.1, itoaB c.2.2.2.2.1] ++ c.2.2.2.2.2.1) bs_32
theorem itoa_size {n : Int} (h0 : -9223372036854775808 ≤ n) (h1 : n ≤ 9223372036854775807) : (itoaB n).size ≤ 21 := by
 have e : (itoaB n).size = (Lib.itoa n).length := List.size_toArray ..
 rw [e]; exact Lib.itoa_length_le n h0 h1
theorem claim_eq {c : Cl} (hk : OkC c) : trust_claim.f c = some (claimB c) ∧ (claimB c).size ≤ 1000000 := by
 have ha := hk.at0; have hb := hk.at1; have hm := hk.many
 have hi := itoa_size (n := c.2.2.2.2.1) (by omega) (by omega)
 have hall : ∀ x ∈ [c.1, c.2.1, c.2.2.1, c.2.2.2.1, itoaB c.2.2.2.2.1] ++ c.2.2.2.2.2.1, x.size ≤ 403 := fun x hx => by
  rcases List.mem_append.1 hx with hx | hx
  ·simp only [List.mem_cons, List.not_mem_nil, or_false] at hx
   rcases hx with rfl | rfl | rfl | rfl | rfl
   ·have := digB_size hk.key; omega
   ·exact hk.label
   ·have := digB_size hk.result; omega
   ·have := wordB_size hk.writer; omega
   ·omega
  ·have := hk.uses x hx; omega
 have hle := join_le 403 _ hall
 have hlen : ([c.1, c.2.1, c.2.2.1, c.2.2.2.1, itoaB c.2.2.2.2.1] ++ c.2.2.2.2.2.1).length = 5 + c.2.2.2.2.2.1.length := by simp; omega
 have hsz : (claimB c).size ≤ 1000000 := by
  unfold claimB
  refine Nat.le_trans hle ?_
  rw [hlen]
  omega
 refine ⟨?_, hsz⟩
 unfold trust_claim.f strconv_Itoa.f
 rw [ck_pos ⟨by omega, by omega⟩, ob_s, ck_pos (by simp; omega)]
 unfold strings_Join.f
 rw [ck_pos ⟨by show List.length ([c.1, c.2.1, c.2.2.1, c.2.2.2.1, itoaB c.2.2.2.2.1] ++ c.2.2.2.2.2.1) ≤ _; omega, Nat.le_trans (show (joinB ([c.1, c.2.1, c.2.2.1, c.2.2.2.1, itoaB c.2.2.2.2.1] ++ c.2.2.2.2.2.1) bs_32).size ≤ _ from hsz) (by decide)⟩, ob_s]
 rfl
end Go.Proofs.YtahlodpolggeiaaGreatDoor
set_option linter.unusedVariables false
set_option linter.unusedSimpArgs false
namespace Go.Proofs.YtahlodpolggeiaaGreatDoor
open Go Go.Lib Go.Proofs.YtahlodpolggeiaaGreatDoor.Eng
theorem wrapU (n : Int) : IntKind.u64.wrap n = n % 18446744073709551616 := by
 simp only [IntKind.wrap, IntKind.bits, IntKind.signed, Bool.false_and, Bool.false_eq_true, if_false]
 have e : (2 : Int) ^ 64 = 18446744073709551616 := by decide
 rw [e]
def hstep (h : Int) (c : UInt8) : Int := IntKind.u64.wrap (IntKind.u64.wrap ((BitVec.toNat (BitVec.ofInt (IntKind.bits .u64) h ^^^ BitVec.ofInt (IntKind.bits .u64) (IntKind.u64.wrap ((UInt8.toNat c : Nat) : Int))) : Nat) : Int) * (1099511628211 : Int))
def hashL (h : Int) : List UInt8 → Int
 | [] => h
 | c :: r => hashL (hstep h c) r
theorem hashL_in : ∀ (l : List UInt8) (h : Int), 0 ≤ h ∧ h < 18446744073709551616 → 0 ≤ hashL h l ∧ hashL h l < 18446744073709551616
 | [], h, hh => hh
 | c :: r, h, _ => hashL_in r _ (by unfold hstep; rw [wrapU]; omega)
theorem hash_loop {l : List UInt8} (hl : l.length ≤ BIG) : ∀ (n k : Nat) (h : Int), l.length - k = n → blob_Digest.l0 l (l.length : Int) h (k : Int) = some (hashL h (l.drop k)) := by
 have hB : BIG = 140737488355328 := rfl
 intro n
 induction n with
 | zero =>
  intro k h hk
  refine loopX_done ?_
  simp only [blob_Digest.s0, cb_dec]
  rw [if_neg (by omega), List.drop_eq_nil_of_le (by omega)]
  rfl
 | succ n ih =>
  intro k h hk
  have hlt : k < l.length := by omega
  have e : ((k : Int) + 1) = ((k + 1 : Nat) : Int) := by omega
  rw [List.drop_eq_getElem_cons hlt]
  refine (loopX_next ?_).trans (ih (k + 1) (hstep h l[k]) (by omega))
  simp only [blob_Digest.s0, cb_dec]
  rw [if_pos (by omega), ck_pos ⟨by omega, by omega⟩, ck_in (by omega) (by omega), rd_lt hlt, e]
  rfl
def hexD (R k : Nat) : UInt8 := bt hexCs (((R / 16 ^ k % 16 : Nat)) : Int)
def digs (R : Nat) : Nat → List UInt8
 | 0 => []
 | k + 1 => hexD R k :: digs R k
theorem set_rep {α : Type} (a b : α) (t : List α) : ∀ m : Nat, (List.replicate (m + 1) a ++ t).set m b = List.replicate m a ++ b :: t
 | 0 => rfl
 | m + 1 => by
  rw [List.replicate_succ, List.cons_append, List.set_cons_succ, set_rep a b t m, List.replicate_succ, List.cons_append]
theorem and15 (x : Nat) (h : x < 18446744073709551616) : IntKind.u64.wrap ((BitVec.toNat (BitVec.ofInt (IntKind.bits .u64) ((x : Nat) : Int) &&& BitVec.ofInt (IntKind.bits .u64) (15 : Int)) : Nat) : Int) = ((x % 16 : Nat) : Int) := by
 have e1 : BitVec.toNat (BitVec.ofInt (IntKind.bits .u64) ((x : Nat) : Int)) = x := by
  rw [BitVec.toNat_ofInt]
  simp only [IntKind.bits]
  omega
 have e2 : BitVec.toNat (BitVec.ofInt (IntKind.bits .u64) (15 : Int)) = 2 ^ 4 - 1 := by decide
 rw [BitVec.toNat_and, e1, e2, Nat.and_two_pow_sub_one_eq_mod, wrapU]
 omega
theorem hex_loop {R : Nat} (hR : R < 18446744073709551616) : ∀ (n i : Nat), 16 - i = n → i ≤ 16 → blob_Digest.l1 16 (((R / 16 ^ i : Nat)) : Int) (i : Int) (List.replicate (16 - i) 0 ++ digs R i) = some (digs R 16) := by
 intro n
 induction n with
 | zero =>
  intro i hn hi
  obtain rfl : i = 16 := by omega
  refine loopX_done ?_
  simp only [blob_Digest.s1, cb_dec]
  rw [if_neg (by decide)]
  simp
 | succ n ih =>
  intro i hn hi
  have hlen : (List.replicate (16 - i) (0 : UInt8) ++ digs R i).length = 16 := by
   have : ∀ k, (digs R k).length = k := fun k => by induction k with | zero => rfl | succ k ih => simp [digs, ih]
   rw [List.length_append, this, List.length_replicate]; omega
  have hx : R / 16 ^ i < 18446744073709551616 := Nat.lt_of_le_of_lt (Nat.div_le_self _ _) hR
  refine (loopX_next ?_).trans (ih (i + 1) (by omega) (by omega))
  have hsz : ((ByteArray.size bs_48_49_50_51_52_53_54_55_56_57_97_98_99_100_101_102 : Nat) : Int) = 16 := by decide
  have e1 : (Int.toNat ((15 : Int) - (i : Int))) = 15 - i := by omega
  simp only [blob_Digest.s1, cb_dec, and15 _ hx, hsz, hlen, e1]
  rw [if_pos (by omega), ck_in (by omega) (by omega), ck_pos ⟨by omega, by omega⟩, ck_pos ⟨by omega, by omega⟩, ck_pos (by omega), ck_in (by omega) (by omega)]
  congr 3
  ·rw [Int.fdiv_eq_ediv_of_nonneg _ (by decide)]
   have e2 : (2 : Int) ^ min (Int.toNat (4 : Int)) (IntKind.bits .u64) = ((16 : Nat) : Int) := by decide
   rw [e2, ← Int.natCast_ediv, Nat.div_div_eq_div_mul, Nat.pow_succ]
  ·congr 1
   have e3 : 16 - i = (15 - i) + 1 := by omega
   rw [e3, set_rep, show 16 - (i + 1) = 15 - i by omega]
   rfl
def dgB (l : List UInt8) : ByteArray := ⟨(digs (hashL 14695981039346656037 l).toNat 16).toArray⟩
theorem digs_len (R : Nat) : ∀ k, (digs R k).length = k
 | 0 => rfl
 | k + 1 => by simp [digs, digs_len R k]
theorem dgB_size (l : List UInt8) : (dgB l).size = 16 := by
 rw [size_list]
 simp [dgB, digs_len]
theorem digest_eq {l : List UInt8} (hl : l.length ≤ BIG) : blob_Digest.f l = some (dgB l) := by
 have h := hash_loop hl _ 0 14695981039346656037 rfl
 obtain ⟨h1, h2⟩ := hashL_in l 14695981039346656037 (by decide)
 rw [List.drop_zero, show ((0 : Nat) : Int) = 0 from rfl] at h
 obtain ⟨R, hR⟩ := Int.eq_ofNat_of_zero_le h1
 unfold blob_Digest.f
 simp only [h, ob_s]
 rw [ck_pos (by decide)]
 have h3 := hex_loop (R := R) (by omega) _ 0 rfl (by decide)
 have e1 : ((List.length (List.replicate (Int.toNat (16 : Int)) (0 : UInt8)) : Nat) : Int) = 16 := by decide
 have e2 : List.replicate (Int.toNat (16 : Int)) (0 : UInt8) = List.replicate (16 - 0) 0 ++ digs R 0 := rfl
 have e3 : (R / 16 ^ 0 : Nat) = R := by simp
 rw [e3] at h3
 rw [e1, e2, hR]
 rw [show (0 : Int) = ((0 : Nat) : Int) from rfl, h3, ob_s]
 unfold dgB
 rw [hR]
 rfl
end Go.Proofs.YtahlodpolggeiaaGreatDoor
set_option linter.unusedVariables false
set_option linter.unusedSimpArgs false
namespace Go.Proofs.YtahlodpolggeiaaGreatDoor
open Go Go.Lib Go.Proofs.YtahlodpolggeiaaGreatDoor.Eng
theorem logLoop {l : List Cl} (hl : l.length ≤ 1000) (hs : ∀ c ∈ l, szC c) : ∀ (n k : Nat), l.length - k = n → ∃ r, trust_CheckLog.l0 l l (l.length : Int) (k : Int) = some r ∧ ((r = .inr () ∧ ∀ j : Nat, ∀ h : j < l.length, k ≤ j → trust_checkClaimed.f l[j] = some 0 ∧ l[j].2.2.2.2.2.2 ≠ bs_ ∧ ∀ h' : 0 < j, (l[j - 1]'(by omega)).2.2.2.2.1 ≤ l[j].2.2.2.2.1) ∨ ∃ f : Int, f ≠ 0 ∧ r = .inl f) := by
 intro n
 induction n with
 | zero =>
  intro k hk
  refine ⟨.inr (), loopX_done ?_, .inl ⟨rfl, fun j h1 h2 => by omega⟩⟩
  simp only [trust_CheckLog.s0, cb_dec]
  rw [if_neg (by omega)]
 | succ n ih =>
  intro k hk
  have hlt : k < l.length := by omega
  obtain ⟨r, h1, h2⟩ := ih (k + 1) (by omega)
  have e : ((k : Int) + 1) = ((k + 1 : Nat) : Int) := by omega
  obtain ⟨f, hf, hf0⟩ := checkC (hs _ (List.getElem_mem hlt))
  have step : trust_CheckLog.s0 l l (l.length : Int) (k : Int) = some (.inr (.inl f)) ∧ f ≠ 0 ∨ trust_CheckLog.s0 l l (l.length : Int) (k : Int) = some (.inr (.inl 3)) ∨ trust_CheckLog.s0 l l (l.length : Int) (k : Int) = some (.inr (.inl 8)) ∨ (trust_CheckLog.s0 l l (l.length : Int) (k : Int) = some (.inl ((k + 1 : Nat) : Int)) ∧ f = 0 ∧ l[k].2.2.2.2.2.2 ≠ bs_ ∧ ∀ h' : 0 < k, (l[k - 1]'(by omega)).2.2.2.2.1 ≤ l[k].2.2.2.2.1) := by
   simp only [trust_CheckLog.s0, cb_dec]
   rw [if_pos (by omega), ck_pos ⟨by omega, by omega⟩, rd_lt hlt, hf, ob_s]
   by_cases h0 : f = 0
   ·rw [decide_eq_true h0]
    simp only [Bool.not_true, cb_f]
    by_cases g : l[k].2.2.2.2.2.2 = bs_
    ·rw [if_pos g]; exact .inr (.inl rfl)
    ·rw [if_neg g]
     by_cases h3 : 0 < k
     ·have e2 : ((k : Int) - 1) = ((k - 1 : Nat) : Int) := by omega
      rw [if_pos (by omega), ck_in (by omega) (by omega), ck_pos ⟨by omega, by omega⟩, e2, rd_lt (show k - 1 < l.length by omega)]
      by_cases h4 : l[k].2.2.2.2.1 < (l[k - 1]'(by omega)).2.2.2.2.1
      ·rw [if_pos h4]; exact .inr (.inr (.inl rfl))
      ·rw [if_neg h4, ck_in (by omega) (by omega), e]
       exact .inr (.inr (.inr ⟨rfl, h0, g, fun _ => by omega⟩))
     ·rw [if_neg (by omega), ck_in (by omega) (by omega), e]
      exact .inr (.inr (.inr ⟨rfl, h0, g, fun h => absurd h h3⟩))
   ·rw [decide_eq_false h0]
    exact .inl ⟨rfl, h0⟩
  rcases step with ⟨hx, h0⟩ | hx | hx | ⟨hx, h0, hg, h4⟩
  ·exact ⟨.inl f, loopX_done hx, .inr ⟨f, h0, rfl⟩⟩
  ·exact ⟨.inl 3, loopX_done hx, .inr ⟨3, by decide, rfl⟩⟩
  ·exact ⟨.inl 8, loopX_done hx, .inr ⟨8, by decide, rfl⟩⟩
  ·refine ⟨r, (loopX_next hx).trans h1, ?_⟩
   rcases h2 with ⟨h2, h5⟩ | h2
   ·refine .inl ⟨h2, fun j hj hkj => ?_⟩
    rcases Nat.eq_or_lt_of_le hkj with rfl | h6
    ·exact ⟨by rw [hf, h0], hg, h4⟩
    ·exact h5 j hj h6
   ·exact .inr h2
structure OkL (l : List Cl) : Prop where
 len : l.length ≤ 1000
 ok : ∀ c ∈ l, trust_checkClaimed.f c = some 0 ∧ OkC c
 sign : ∀ c ∈ l, c.2.2.2.2.2.2 ≠ bs_
 rise : ∀ j : Nat, ∀ h : j < l.length, ∀ h' : 0 < j, (l[j - 1]'(by omega)).2.2.2.2.1 ≤ l[j].2.2.2.2.1
theorem checkLog {l : List Cl} (hs : ∀ c ∈ l, szC c) : ∃ f : Int, trust_CheckLog.f l = some f ∧ (f = 0 → OkL l) := by
 unfold trust_CheckLog.f
 simp only [cb_dec]
 by_cases h : 1000 < l.length
 ·rw [if_pos (by omega)]; exact ⟨2, rfl, fun h => by cases h⟩
 ·rw [if_neg (by omega)]
  obtain ⟨r, h1, h2⟩ := logLoop (l := l) (by omega) hs _ 0 rfl
  rw [show ((0 : Nat) : Int) = 0 from rfl] at h1
  rw [h1, ob_s]
  rcases h2 with ⟨rfl, h3⟩ | ⟨f, hf, rfl⟩
  ·refine ⟨0, rfl, fun _ => ⟨by omega, fun c hc => ?_, fun c hc => ?_, fun j hj hj0 => (h3 j hj (Nat.zero_le _)).2.2 hj0⟩⟩
   ·obtain ⟨j, hj, rfl⟩ := List.getElem_of_mem hc
    have h4 := (h3 j hj (Nat.zero_le _)).1
    obtain ⟨f, hf, hf0⟩ := checkC (hs _ hc)
    rw [h4] at hf
    exact ⟨h4, hf0 (Option.some.inj hf).symm⟩
   ·obtain ⟨j, hj, rfl⟩ := List.getElem_of_mem hc
    exact (h3 j hj (Nat.zero_le _)).2.1
  ·exact ⟨f, rfl, fun h => absurd h hf⟩
noncomputable def nxt (h : ByteArray) (c : Cl) : ByteArray := dgB ((((h ++ bs_32) ++ claimB c) ++ bs_32) ++ c.2.2.2.2.2.2).data.toList
noncomputable def runH (h : ByteArray) : List Cl → List ByteArray
 | [] => []
 | c :: r => nxt h c :: runH (nxt h c) r
theorem runH_len : ∀ (l : List Cl) (h : ByteArray), (runH h l).length = l.length
 | [], _ => rfl
 | c :: r, h => by simp [runH, runH_len r]
theorem runH_take : ∀ (l : List Cl) (h : ByteArray) (n : Nat), runH h (l.take n) = (runH h l).take n
 | [], h, n => by simp [runH]
 | c :: r, h, 0 => by simp [runH]
 | c :: r, h, n + 1 => by simp [runH, runH_take r]
abbrev zeros : ByteArray := bs_48_48_48_48_48_48_48_48_48_48_48_48_48_48_48_48
theorem headsLoop {l : List Cl} (hl : l.length ≤ 1000) (hs : ∀ c ∈ l, OkC c) : ∀ (n k : Nat) (out : List ByteArray) (h : ByteArray), l.length - k = n → out.length = k + 1 → out[k]? = some h → h.size = 16 → trust_heads.l0 l (l.length : Int) (k : Int) out = some (out ++ runH h (l.drop k)) := by
 have hB : BIG = 140737488355328 := rfl
 intro n
 induction n with
 | zero =>
  intro k out h hk ho hh hsz
  refine loopX_done ?_
  simp only [trust_heads.s0, cb_dec]
  rw [if_neg (by omega), List.drop_eq_nil_of_le (by omega), runH, List.append_nil]
 | succ n ih =>
  intro k out h hk ho hh hsz
  have hlt : k < l.length := by omega
  have g2 := hs _ (List.getElem_mem hlt)
  obtain ⟨g3, g4⟩ := claim_eq g2
  have g5 := g2.sign
  have e : ((k : Int) + 1) = ((k + 1 : Nat) : Int) := by omega
  have e32 : bs_32.size = 1 := rfl
  have s1 : (h ++ bs_32).size = 17 := by rw [ByteArray.size_append, hsz, e32]
  have s2 : ((h ++ bs_32) ++ claimB l[k]).size = 17 + (claimB l[k]).size := by rw [ByteArray.size_append, s1]
  have s3 : (((h ++ bs_32) ++ claimB l[k]) ++ bs_32).size = 18 + (claimB l[k]).size := by rw [ByteArray.size_append, s2, e32]; omega
  have hget : List.getD out (Int.toNat (k : Int)) ByteArray.empty = h := by
   rw [Int.toNat_natCast, List.getD, hh]; rfl
  rw [List.drop_eq_getElem_cons hlt, runH]
  refine (loopX_next (x' := (((k + 1 : Nat) : Int), out ++ [nxt h l[k]])) ?_).trans ((ih (k + 1) (out ++ [nxt h l[k]]) (nxt h l[k]) (by omega) (by simp [ho]) (by rw [List.getElem?_append_right (by omega)]; simp [ho]) (dgB_size _)).trans (by rw [List.append_assoc]; rfl))
  simp only [trust_heads.s0, cb_dec]
  rw [if_pos (by omega), ck_pos ⟨by omega, by omega⟩, ck_pos ⟨by omega, by omega⟩, ck_pos (by omega), hget, rd_lt hlt, g3]
  rw [ck_pos (by omega), ob_s, ck_pos (by omega), ck_pos (by omega), ck_pos (by omega)]
  rw [digest_eq (by rw [← size_list, ByteArray.size_append, s3]; omega), ob_s, ck_pos (by simp; omega), ck_in (by omega) (by omega), e]
  rfl
theorem heads_eq {l : List Cl} (hl : l.length ≤ 1000) (hs : ∀ c ∈ l, OkC c) : trust_heads.f l = some (zeros :: runH zeros l) := by
 have h := headsLoop hl hs _ 0 [zeros] zeros rfl rfl rfl rfl
 show ob (trust_heads.l0 l (l.length : Int) ((0 : Nat) : Int) [zeros]) (fun r => some r) = _
 rw [h, ob_s]
 rfl
theorem Heads_eq {l : List Cl} (hs : ∀ c ∈ l, szC c) {f : Int} (hf : trust_CheckLog.f l = some f) : trust_Heads.f l = some (if f = 0 then runH zeros l else [], f) := by
 unfold trust_Heads.f
 rw [hf, ob_s]
 by_cases h : f = 0
 ·subst h
  obtain ⟨f', h1, h2⟩ := checkLog hs
  rw [hf] at h1
  have hk := h2 (Option.some.inj h1).symm
  rw [heads_eq hk.len (fun c hc => (hk.ok c hc).2)]
  simp only [decide_true, Bool.not_true, cb_f, ob_s]
  rw [ck_pos ⟨by decide, by simp; omega⟩]
  rfl
 ·rw [decide_eq_false h, if_neg h]; rfl
theorem Grown_eq {l : List Cl} (hs : ∀ c ∈ l, szC c) {f : Int} (hf : trust_CheckLog.f l = some f) (s : ByteArray) (n : Int) : trust_Grown.f s n l = some (if f = 0 then (if digB s then (if 0 ≤ n ∧ n ≤ (l.length : Int) then (decide ((zeros :: runH zeros l).getD n.toNat ByteArray.empty = s), 0) else (false, 1)) else (false, 3)) else (false, f)) := by
 unfold trust_Grown.f
 rw [hf, ob_s]
 by_cases h : f = 0
 ·subst h
  obtain ⟨f', h1, h2⟩ := checkLog hs
  rw [hf] at h1
  have hk := h2 (Option.some.inj h1).symm
  simp only [decide_true, Bool.not_true, cb_f, isDigest_eq, ob_s, within_eq, if_true]
  cases digB s with
  | false => rfl
  | true =>
   simp only [Bool.not_true, cb_f, if_true]
   by_cases hn : 0 ≤ n ∧ n ≤ (l.length : Int)
   ·obtain ⟨k, rfl⟩ := Int.eq_ofNat_of_zero_le hn.1
    have hlen := hk.len
    rw [decide_eq_true hn, if_pos hn]
    simp only [Bool.not_true, cb_f]
    rw [ck_pos hn, Int.toNat_natCast, heads_eq (l := l.take k) (by rw [List.length_take]; omega) (fun c hc => (hk.ok c (List.mem_of_mem_take hc)).2), ob_s]
    have hkl : k ≤ l.length := by omega
    rw [ck_pos ⟨by omega, by rw [List.length_cons, runH_len, List.length_take]; omega⟩]
    congr 2
    have e : (zeros :: runH zeros (l.take k)) = (zeros :: runH zeros l).take (k + 1) := by rw [List.take_succ_cons, runH_take]
    rw [e, rd_nat]
    simp only [List.getD, List.getElem?_take]
    rw [if_pos (by omega)]
    exact decide_eq_decide.2 Iff.rfl
   ·rw [decide_eq_false hn, if_neg hn]; rfl
 ·rw [decide_eq_false h, if_neg h]; rfl
theorem below_eq {x : Int} {n : Nat} (hn : 0 < n) (hn2 : n ≤ 1000000000000000) : ∃ k : Nat, k < n ∧ ref11_Below.f x (n : Int) = some (k : Int) := by
 unfold ref11_Below.f
 have h0 : ((n : Nat) : Int) ≠ 0 := by omega
 rw [ck_pos h0, cb_dec]
 have h1 : x.tmod n < n := Int.tmod_lt_of_pos _ (by omega)
 have h2 : -(n : Int) < x.tmod n := Int.lt_tmod_of_pos _ (by omega)
 by_cases h : x.tmod n < 0
 ·rw [if_pos h, ck_in (by omega) (by omega)]
  exact ⟨(x.tmod n + n).toNat, by omega, by congr 1; omega⟩
 ·rw [if_neg h]
  exact ⟨(x.tmod n).toNat, by omega, by congr 1; omega⟩
theorem law_LG {l : List Cl} (hl : l.length ≤ 100000000000000) (hs : ∀ c ∈ l, szC c) (x : Int) : law11_TrustLogsGrow.f l x = some true := by
 unfold law11_TrustLogsGrow.f
 obtain ⟨k, hk, hb⟩ := below_eq (x := x) (n := l.length + 1) (by omega) (by omega)
 rw [ck_in (by omega) (by omega)]
 rw [show ((List.length l : Nat) : Int) + 1 = ((l.length + 1 : Nat) : Int) by omega, hb, ob_s, ck_pos ⟨by omega, by omega⟩, Int.toNat_natCast]
 have hst : ∀ c ∈ l.take k, szC c := fun c hc => hs c (List.mem_of_mem_take hc)
 obtain ⟨f, h1, h2⟩ := checkLog hst
 simp only [Heads_eq hst h1, ob_s, awake11]
 by_cases h : f = 0
 ·rw [decide_eq_true h, if_pos h]
  have e1 : (runH zeros (l.take k)).length = k := by rw [runH_len, List.length_take]; omega
  simp only [Bool.not_true, cb_f, e1, decide_true]
  obtain ⟨f', h3, h4⟩ := checkLog hs
  have fin : ∀ s : ByteArray, (zeros :: runH zeros l).getD k ByteArray.empty = s → (ob (trust_Grown.f s (k : Int) l) fun r => (cb (!decide (r.2 = (0 : Int))) (some true) (some r.1))) = some true := fun s hsx => by
   rw [Grown_eq hs h3, ob_s]
   by_cases h5 : f' = 0
   ·rw [if_pos h5]
    cases digB s with
    | false => rfl
    | true =>
     rw [if_pos rfl, if_pos ⟨by omega, by omega⟩, Int.toNat_natCast, hsx]
     simp [cb_f]
   ·rw [if_neg h5]
    simp only [decide_eq_false h5]; rfl
  rw [cb_dec]
  by_cases h0 : 0 < k
  ·have e2 : ((k : Int) - 1) = ((k - 1 : Nat) : Int) := by omega
   rw [if_pos (by omega), ck_in (by omega) (by omega), ck_pos ⟨by omega, by omega⟩, e2]
   refine fin _ ?_
   rw [rd_nat, runH_take]
   obtain ⟨j, rfl⟩ : ∃ j, k = j + 1 := ⟨k - 1, by omega⟩
   simp only [List.getD, List.getElem?_cons_succ, Nat.add_sub_cancel, List.getElem?_take]
   rw [if_pos (by omega)]
  ·rw [if_neg (by omega)]
   refine fin _ ?_
   obtain rfl : k = 0 := by omega
   rfl
 ·rw [decide_eq_false h, if_neg h]
  rfl
end Go.Proofs.YtahlodpolggeiaaGreatDoor
