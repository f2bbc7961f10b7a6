/-
  Plain laws over the printed functions: labels, words, writers, claimed results, digests, logs. No condition.
-/
import Derived.Test.YtahlodpolggeiaaGreatDoorZFun
import Derived.Sort.Walk0
import Derived.Laws.RangeAny
import Derived.Lib.IndexLaws
import Derived.Lib.ItoaLen
import Derived.KernelRfl
set_option linter.unusedVariables false
set_option linter.unusedSimpArgs false
namespace Go.Proofs.YtahlodpolggeiaaGreatDoor
open Go Go.Proofs.YtahlodpolggeiaaGreatDoor.Eng
def BIG : Nat := 140737488355328
theorem size_list (s : ByteArray) : s.size = s.data.toList.length := by rw [ByteArray.size]; simp
theorem bt_get {s : ByteArray} {k : Nat} (h : k < s.data.toList.length) : bt s (k : Int) = s.data.toList[k] := by
 have h' : k < s.size := by rw [size_list]; exact h
 unfold bt
 simp only [Int.toNat_natCast]
 rw [getElem?_pos s k h', Option.getD_some]
 rfl
theorem byteLoop {s : ByteArray} (hs : s.size ≤ BIG) (p : UInt8 → Bool) (f : Int → Option (Int ⊕ (Bool ⊕ Unit))) (hend : ∀ k : Nat, s.data.toList.length ≤ k → f k = some (.inr (.inr ())))
  (hno : ∀ k : Nat, ∀ h : k < s.data.toList.length, p s.data.toList[k] = false → f k = some (.inr (.inl false))) (hyes : ∀ k : Nat, ∀ h : k < s.data.toList.length, p s.data.toList[k] = true → f k = some (.inl ((k : Int) + 1))) :
  ∀ (n k : Nat), s.data.toList.length - k = n → loopX f (k : Int) = some (if (s.data.toList.drop k).all p then .inr () else .inl false) := by
 intro n
 induction n with
 | zero =>
  intro k hn
  rw [List.drop_eq_nil_of_le (by omega)]
  exact loopX_done (hend k (by omega))
 | succ n ih =>
  intro k hn
  have hlt : k < s.data.toList.length := by omega
  rw [List.drop_eq_getElem_cons hlt, List.all_cons]
  cases hp : p s.data.toList[k] with
  | false => exact loopX_done (hno k hlt hp)
  | true =>
   rw [Bool.true_and]
   exact (loopX_next (hyes k hlt hp)).trans (ih (k + 1) (by omega))
def partC (c : UInt8) : Bool := decide (97 ≤ c.toNat ∧ c.toNat ≤ 122) || decide (65 ≤ c.toNat ∧ c.toNat ≤ 90) || decide (48 ≤ c.toNat ∧ c.toNat ≤ 57) || decide (0 ≤ Lib.indexByte [46, 95, 45, 43] c)
theorem inPart_eq (c : UInt8) : blob_inPart.f c = some (partC c) := by
 have hi : strings_IndexByte.f bs_46_95_45_43 c = some (Lib.indexByte [46, 95, 45, 43] c) := rfl
 unfold blob_inPart.f partC
 simp only [cb_dec, hi, ob_s]
 by_cases h1 : (97 : Int) ≤ ((UInt8.toNat c : Nat) : Int) <;> by_cases h2 : ((UInt8.toNat c : Nat) : Int) ≤ 122 <;> by_cases h3 : (65 : Int) ≤ ((UInt8.toNat c : Nat) : Int) <;> by_cases h4 : ((UInt8.toNat c : Nat) : Int) ≤ 90 <;>
  by_cases h5 : (48 : Int) ≤ ((UInt8.toNat c : Nat) : Int) <;> by_cases h6 : ((UInt8.toNat c : Nat) : Int) ≤ 57 <;> simp only [h1, h2, h3, h4, h5, h6, if_true, if_false] <;> congr 1 <;>
  (have g1 : decide (97 ≤ c.toNat ∧ c.toNat ≤ 122) = decide ((97 : Int) ≤ ((UInt8.toNat c : Nat) : Int) ∧ ((UInt8.toNat c : Nat) : Int) ≤ 122) := decide_eq_decide.2 (by omega)
   have g2 : decide (65 ≤ c.toNat ∧ c.toNat ≤ 90) = decide ((65 : Int) ≤ ((UInt8.toNat c : Nat) : Int) ∧ ((UInt8.toNat c : Nat) : Int) ≤ 90) := decide_eq_decide.2 (by omega)
   have g3 : decide (48 ≤ c.toNat ∧ c.toNat ≤ 57) = decide ((48 : Int) ≤ ((UInt8.toNat c : Nat) : Int) ∧ ((UInt8.toNat c : Nat) : Int) ≤ 57) := decide_eq_decide.2 (by omega)
   rw [g1, g2, g3]; simp [h1, h2, h3, h4, h5, h6])
def isPartB (s : ByteArray) : Bool := s.data.toList.all partC && (!decide (s = bs_) && (!decide (s = bs_46) && !decide (s = bs_46_46)))
theorem isPart_eq {s : ByteArray} (hs : s.size ≤ BIG) : blob_isPart.f s = some (isPartB s) := by
 have hb : BIG = 140737488355328 := rfl
 have hl := size_list s
 have h := byteLoop hs partC (fun x => blob_isPart.s0 s (s.size : Int) x) (fun k hk => by
  simp only [blob_isPart.s0, cb_dec]; rw [if_neg (by omega)]) (fun k hk hp => by
  simp only [blob_isPart.s0, cb_dec, bt_get hk, inPart_eq, hp, ob_s]; rw [if_pos (by omega), ck_pos (by omega)]; rfl) (fun k hk hp => by
  simp only [blob_isPart.s0, cb_dec, bt_get hk, inPart_eq, hp, ob_s]; rw [if_pos (by omega), ck_pos (by omega), ck_in (by omega) (by omega)]; rfl) s.data.toList.length 0 (by omega)
 rw [List.drop_zero] at h
 unfold blob_isPart.f isPartB
 show ob (loopX (fun x => blob_isPart.s0 s (s.size : Int) x) ((0 : Nat) : Int)) _ = _
 rw [h]
 cases s.data.toList.all partC
 ·rfl
 ·simp only [if_true, ob_s, caseS_r, Bool.true_and, cb_not, cb_dec]
  by_cases e1 : s = bs_
  ·rw [if_pos e1, decide_eq_true e1]; rfl
  ·rw [if_neg e1, decide_eq_false e1]
   by_cases e2 : s = bs_46
   ·rw [if_pos e2, decide_eq_true e2]; rfl
   ·rw [if_neg e2, decide_eq_false e2]; rfl
theorem indexByte_lt : ∀ (l : List UInt8) (c : UInt8), -1 ≤ Lib.indexByte l c ∧ Lib.indexByte l c < l.length
 | [], c => by simp [Lib.indexByte]
 | b :: l, c => by
  have h := indexByte_lt l c
  unfold Lib.indexByte
  split
  ·simp only [List.length_cons]; omega
  ·split
   ·simp only [List.length_cons]; omega
   ·rename_i h1
    have : ¬ Lib.indexByte l c = -1 := by simpa using h1
    simp only [List.length_cons]; omega
theorem index47 (s : ByteArray) : strings_Index.f s bs_47 = some (Lib.indexByte s.data.toList 47) := by
 show ob (ck _ _) _ = _
 rw [ck_pos (by rfl)]; rfl
theorem index58 (s : ByteArray) : internal_stringslite_Index.f s bs_58 = some (Lib.indexByte s.data.toList 58) := by
 show ck _ _ = _
 rw [ck_pos (by rfl)]; rfl
theorem extract_size (s : ByteArray) (a b : Nat) : (s.extract a b).size = min b s.size - a := by simp [ByteArray.size_extract]
theorem splitLoop {n : Nat} (hn : n ≤ 1000000000000) : ∀ (m i : Nat) (s : ByteArray) (a : List ByteArray), n - i = m → i ≤ n → a.length = n + 1 → s.size ≤ BIG →
  ∃ (s' : ByteArray) (i' : Nat) (a' : List ByteArray), strings_genSplit.l0 bs_47 0 (n : Int) s (i : Int) a = some (s', (i' : Int), a') ∧ i' ≤ n ∧ a'.length = n + 1 ∧ (∀ x ∈ a', x.size ≤ s.size ∨ x ∈ a) ∧ s'.size ≤ s.size := by
 intro m
 have hb : BIG = 140737488355328 := rfl
 induction m with
 | zero =>
  intro i s a hm hi ha hs
  refine ⟨s, i, a, loopX_done ?_, hi, ha, fun x hx => .inr hx, Nat.le_refl _⟩
  simp only [strings_genSplit.s0, cb_dec]
  rw [if_neg (by omega)]
 | succ m ih =>
  intro i s a hm hi ha hs
  have hx := indexByte_lt s.data.toList 47
  have hl := size_list s
  by_cases hneg : Lib.indexByte s.data.toList 47 < 0
  ·refine ⟨s, i, a, loopX_done ?_, hi, ha, fun x hx => .inr hx, Nat.le_refl _⟩
   simp only [strings_genSplit.s0, cb_dec, index47, ob_s]
   rw [if_pos (by omega), if_pos hneg]
  ·have hz1 := extract_size s 0 (Int.toNat (Lib.indexByte s.data.toList 47 + 0))
   have hz2 := extract_size s (Int.toNat (Lib.indexByte s.data.toList 47 + ((bs_47.size : Nat) : Int))) s.size
   have h1 : bs_47.size = 1 := rfl
   obtain ⟨s', i', a', h2, h3, h4, h5, h6⟩ := ih (i + 1) (s.extract (Int.toNat (Lib.indexByte s.data.toList 47 + ((bs_47.size : Nat) : Int))) s.size) (a.set i (s.extract 0 (Int.toNat (Lib.indexByte s.data.toList 47 + 0)))) (by omega) (by omega) (by simpa using ha) (by rw [hz2]; omega)
   refine ⟨s', i', a', (loopX_next ?_).trans h2, h3, h4, fun x hx => ?_, by omega⟩
   ·simp only [strings_genSplit.s0, cb_dec, index47, ob_s]
    rw [if_pos (by omega), if_neg hneg, ck_in (by omega) (by omega), ck_pos (by omega), ck_pos (by omega), ck_pos (by rw [Int.toNat_natCast]; omega), ck_in (by rw [h1]; omega) (by rw [h1]; omega), ck_pos (by rw [h1]; omega), ck_in (by omega) (by omega)]
    rfl
   ·rcases h5 x hx with h | h
    ·left; omega
    ·rcases List.mem_or_eq_of_mem_set h with h | h
     ·exact .inr h
     ·left; rw [h, hz1]; omega
theorem countByte_le (l : List UInt8) (c : UInt8) : (Lib.countByte l c : Nat) ≤ l.length := List.count_le_length
theorem split_some {s : ByteArray} (hs : s.size ≤ 100000000000) : ∃ l, strings_Split.f s bs_47 = some l ∧ l.length ≤ 100000000002 ∧ ∀ x ∈ l, x.size ≤ s.size := by
 have hb : BIG = 140737488355328 := rfl
 have hl := size_list s
 have hc := countByte_le s.data.toList 47
 have hcnt : strings_Count.f s bs_47 = some ((Lib.countByte s.data.toList 47 : Nat) : Int) := by
  show ck _ _ = _
  rw [ck_pos (by rfl)]; rfl
 obtain ⟨s', i', a', h2, h3, h4, h5, h6⟩ := splitLoop (n := Lib.countByte s.data.toList 47) (by omega) _ 0 s (List.replicate (Lib.countByte s.data.toList 47 + 1) ByteArray.empty) rfl (Nat.zero_le _) (by simp) (by omega)
 unfold strings_Split.f strings_genSplit.f
 have e1 : ¬ (bs_47 = bs_) := by decide
 have hy : min (((Lib.countByte s.data.toList 47 : Nat) : Int) + 1) (((s.size : Nat) : Int) + 1) = ((Lib.countByte s.data.toList 47 + 1 : Nat) : Int) := by omega
 simp only [cb_dec, hcnt, ob_s, hy]
 rw [if_neg (by decide), if_neg e1, if_pos (by decide), ck_in (by omega) (by omega), ck_in (by omega) (by omega), ck_pos (by omega), ck_in (by omega) (by omega)]
 rw [show ((Lib.countByte s.data.toList 47 + 1 : Nat) : Int) - 1 = ((Lib.countByte s.data.toList 47 : Nat) : Int) by omega, Int.toNat_natCast]
 rw [show ((0 : Nat) : Int) = 0 from rfl] at h2
 rw [h2, ob_s]
 simp only
 rw [ck_pos (by omega), ck_pos (by rw [Int.toNat_natCast]; omega), ck_in (by omega) (by omega), ck_pos (by simp only [List.length_set]; omega), ob_s]
 refine ⟨_, rfl, by simp only [List.length_take, List.length_drop, List.length_set]; omega, fun x hx => ?_⟩
 have hx1 := List.mem_of_mem_drop (List.mem_of_mem_take hx)
 rcases List.mem_or_eq_of_mem_set hx1 with h | h
 ·rcases h5 x h with h | h
  ·exact h
  ·have := List.eq_of_mem_replicate h
   rw [this]; exact Nat.zero_le _
 ·rw [h]; exact h6
noncomputable def splitL (s : ByteArray) : List ByteArray := (strings_Split.f s bs_47).getD []
theorem split_eq {s : ByteArray} (hs : s.size ≤ 100000000000) : strings_Split.f s bs_47 = some (splitL s) ∧ (splitL s).length ≤ 100000000002 ∧ ∀ x ∈ splitL s, x.size ≤ s.size := by
 obtain ⟨l, h1, h2, h3⟩ := split_some hs
 have e : splitL s = l := by unfold splitL; rw [h1]; rfl
 rw [e]
 exact ⟨h1, h2, h3⟩
theorem listLoop {α : Type} {l : List α} (p : α → Bool) (f : Int → Option (Int ⊕ (Bool ⊕ Unit))) (hend : ∀ k : Nat, l.length ≤ k → f k = some (.inr (.inr ())))
  (hno : ∀ k : Nat, ∀ h : k < l.length, p l[k] = false → f k = some (.inr (.inl false))) (hyes : ∀ k : Nat, ∀ h : k < l.length, p l[k] = true → f k = some (.inl ((k : Int) + 1))) :
  ∀ (n k : Nat), l.length - k = n → loopX f (k : Int) = some (if (l.drop k).all p then .inr () else .inl false) := by
 intro n
 induction n with
 | zero =>
  intro k hn
  rw [List.drop_eq_nil_of_le (by omega)]
  exact loopX_done (hend k (by omega))
 | succ n ih =>
  intro k hn
  have hlt : k < l.length := by omega
  rw [List.drop_eq_getElem_cons hlt, List.all_cons]
  cases hp : p l[k] with
  | false => exact loopX_done (hno k hlt hp)
  | true =>
   rw [Bool.true_and]
   exact (loopX_next (hyes k hlt hp)).trans (ih (k + 1) (by omega))
noncomputable def isPathB (s : ByteArray) : Bool := if 1 ≤ s.size ∧ s.size ≤ 200 then (splitL s).all isPartB else false
theorem isPath_eq (s : ByteArray) : blob_IsPath.f s = some (isPathB s) := by
 have hb : BIG = 140737488355328 := rfl
 unfold blob_IsPath.f isPathB
 simp only [cb_dec]
 by_cases h1 : ((s.size : Nat) : Int) < 1
 ·rw [if_pos h1, if_neg (by omega)]
 ·by_cases h2 : (200 : Int) < ((s.size : Nat) : Int)
  ·rw [if_neg h1, if_pos h2, if_neg (by omega)]
  ·obtain ⟨g1, g2, g3⟩ := split_eq (s := s) (by omega)
   have h := listLoop (l := splitL s) isPartB (fun x => blob_IsPath.s0 (splitL s) ((splitL s).length : Int) x) (fun k hk => by
    simp only [blob_IsPath.s0, cb_dec]; rw [if_neg (by omega)]) (fun k hk hp => by
    have hz := g3 _ (List.getElem_mem hk)
    simp only [blob_IsPath.s0, cb_dec, rd_lt hk, isPart_eq (s := (splitL s)[k]) (by omega), hp, ob_s]; rw [if_pos (by omega), ck_pos (by omega)]; rfl) (fun k hk hp => by
    have hz := g3 _ (List.getElem_mem hk)
    simp only [blob_IsPath.s0, cb_dec, rd_lt hk, isPart_eq (s := (splitL s)[k]) (by omega), hp, ob_s]; rw [if_pos (by omega), ck_pos (by omega), ck_in (by omega) (by omega)]; rfl) (splitL s).length 0 (by omega)
   rw [List.drop_zero] at h
   rw [if_neg h1, if_neg h2, if_pos (by omega), g1, ob_s]
   show ob (loopX (fun x => blob_IsPath.s0 (splitL s) ((splitL s).length : Int) x) ((0 : Nat) : Int)) _ = _
   rw [h]
   cases (splitL s).all isPartB <;> rfl
def hasP (s p : ByteArray) : Bool := decide (p.size ≤ s.size) && decide (s.extract 0 p.size = p)
theorem hasPrefix_eq (s p : ByteArray) : internal_stringslite_HasPrefix.f s p = some (hasP s p) := by
 unfold internal_stringslite_HasPrefix.f hasP
 simp only [cb_dec, Int.toNat_natCast]
 by_cases h : p.size ≤ s.size
 ·rw [if_pos (by omega), ck_pos (by omega), decide_eq_true h, Bool.true_and]
 ·rw [if_neg (by omega), decide_eq_false h, Bool.false_and]
def cutP (s p : ByteArray) : ByteArray × Bool := if hasP s p then (s.extract p.size s.size, true) else (s, false)
theorem cutPrefix_eq (s p : ByteArray) : strings_CutPrefix.f s p = some (cutP s p) := by
 unfold strings_CutPrefix.f internal_stringslite_CutPrefix.f cutP
 simp only [hasPrefix_eq, ob_s, Int.toNat_natCast]
 cases h : hasP s p with
 | false => rfl
 | true =>
  have h' : p.size ≤ s.size := by
   unfold hasP at h
   rw [Bool.and_eq_true] at h
   exact of_decide_eq_true h.1
  simp only [Bool.not_true, cb_f]
  rw [ck_pos (by omega)]
  rfl
def cut58 (s : ByteArray) : ByteArray × (ByteArray × Bool) :=
 if 0 ≤ Lib.indexByte s.data.toList 58 then (s.extract 0 (Lib.indexByte s.data.toList 58).toNat, s.extract ((Lib.indexByte s.data.toList 58).toNat + 1) s.size, true) else (s, bs_, false)
theorem cut_eq {s : ByteArray} (hs : s.size ≤ BIG) : strings_Cut.f s bs_58 = some (cut58 s) := by
 have hb : BIG = 140737488355328 := rfl
 have hx := indexByte_lt s.data.toList 58
 have hl := size_list s
 have h1 : bs_58.size = 1 := rfl
 unfold strings_Cut.f internal_stringslite_Cut.f cut58
 simp only [index58, ob_s, cb_dec, h1]
 by_cases h : 0 ≤ Lib.indexByte s.data.toList 58
 ·rw [if_pos h, if_pos h, ck_pos (by omega), ck_in (by omega) (by omega), ck_pos (by omega), ob_s]
  rw [show (Lib.indexByte s.data.toList 58 + ((1 : Nat) : Int)).toNat = (Lib.indexByte s.data.toList 58).toNat + 1 by omega]
 ·rw [if_neg h, if_neg h]; rfl
theorem last_some {s : ByteArray} (hs : s.size ≤ BIG) : ∃ r, script_last.f s = some r ∧ r.size ≤ s.size := by
 have hb : BIG = 140737488355328 := rfl
 have hl := size_list s
 have go : ∀ (m : Nat) (k : Int), (k + 1).toNat = m → -1 ≤ k → k < s.size → ∃ r, internal_bytealg_LastIndexByteString.l0 s (UInt8.ofInt 47) k = some r ∧ ∀ i, r = .inl i → 0 ≤ i ∧ i < s.size := by
  intro m
  induction m with
  | zero =>
   intro k hm h1 h2
   refine ⟨.inr (), loopX_done ?_, fun i h => by cases h⟩
   simp only [internal_bytealg_LastIndexByteString.s0, cb_dec]
   rw [if_neg (by omega)]
  | succ m ih =>
   intro k hm h1 h2
   by_cases he : ((UInt8.toNat (bt s k) : Nat) : Int) = ((UInt8.toNat (UInt8.ofInt 47) : Nat) : Int)
   ·refine ⟨.inl k, loopX_done ?_, fun i h => by cases h; omega⟩
    simp only [internal_bytealg_LastIndexByteString.s0, cb_dec]
    rw [if_pos (by omega), ck_pos (by omega), if_pos he]
   ·obtain ⟨r, h3, h4⟩ := ih (k - 1) (by omega) (by omega) (by omega)
    refine ⟨r, (loopX_next ?_).trans h3, h4⟩
    simp only [internal_bytealg_LastIndexByteString.s0, cb_dec]
    rw [if_pos (by omega), ck_pos (by omega), if_neg he, ck_in (by omega) (by omega)]
 obtain ⟨r, h1, h2⟩ := go _ (((s.size : Nat) : Int) - 1) rfl (by omega) (by omega)
 unfold script_last.f strings_LastIndexByte.f internal_bytealg_LastIndexByteString.f
 simp only [h1, ob_s]
 rw [ck_in (by omega) (by omega)]
 cases r with
 | inl i =>
  have := h2 i rfl
  simp only [caseS_l, ob_s]
  rw [ck_in (by omega) (by omega), ck_pos (by omega)]
  exact ⟨_, rfl, by rw [extract_size]; omega⟩
 | inr u =>
  simp only [caseS_r, ob_s]
  rw [ck_in (by omega) (by omega), ck_pos (by omega)]
  exact ⟨_, rfl, by rw [extract_size]; omega⟩
noncomputable def labF (a : ByteArray × ByteArray) : Int := if (a.1 = bs_ ∨ isPathB a.1 = true) ∧ isPathB a.2 = true then 0 else 3
theorem checkLabel_eq (a : ByteArray × ByteArray) : script_CheckLabel.f a = some (labF a) := by
 unfold script_CheckLabel.f labF
 simp only [isPath_eq, ob_s, cb_not, cb_dec]
 by_cases e : a.1 = bs_
 ·simp only [e, if_true, true_or, true_and]
  cases isPathB a.2 <;> rfl
 ·simp only [e, if_false, false_or]
  cases isPathB a.1 <;> cases isPathB a.2 <;> rfl
end Go.Proofs.YtahlodpolggeiaaGreatDoor
set_option linter.unusedVariables false
set_option linter.unusedSimpArgs false
namespace Go.Proofs.YtahlodpolggeiaaGreatDoor
open Go Go.Proofs.YtahlodpolggeiaaGreatDoor.Eng
def cmpS (a b : ByteArray) : Int := Lib.compareBytes a.data.toList b.data.toList
theorem cmpL_eq0 : ∀ a b : List UInt8, (Lib.compareBytes a b = 0 ↔ a = b)
 | [], [] => by simp [Lib.compareBytes]
 | [], _ :: _ => by simp [Lib.compareBytes]
 | _ :: _, [] => by simp [Lib.compareBytes]
 | x :: a, y :: b => by
  have ih := cmpL_eq0 a b
  unfold Lib.compareBytes
  by_cases h1 : x < y
  ·have h3 : ¬ x = y := fun e => by subst e; exact absurd h1 (UInt8.lt_irrefl x)
   simp [h1, h3]
  ·by_cases h2 : y < x
   ·have h3 : ¬ x = y := fun e => by subst e; exact absurd h2 (UInt8.lt_irrefl x)
    simp [h1, h2, h3]
   ·have h3 : x = y := UInt8.le_antisymm (UInt8.not_lt.1 h2) (UInt8.not_lt.1 h1)
    subst h3
    simp only [h1, if_false, List.cons.injEq, true_and]
    exact ih
theorem cmpL_trans : ∀ a b c : List UInt8, Lib.compareBytes a b < 0 → Lib.compareBytes b c < 0 → Lib.compareBytes a c < 0
 | [], [], c, h, _ => by simp [Lib.compareBytes] at h
 | [], _ :: _, [], _, h => by simp [Lib.compareBytes] at h
 | [], _ :: _, _ :: _, _, _ => by simp [Lib.compareBytes]
 | _ :: _, [], c, h, _ => by simp [Lib.compareBytes] at h
 | _ :: _, _ :: _, [], _, h => by simp [Lib.compareBytes] at h
 | x :: a, y :: b, z :: c, h, h' => by
  have ih := cmpL_trans a b c
  unfold Lib.compareBytes at h h' ⊢
  by_cases h1 : x < y
  ·by_cases h2 : y < z
   ·simp [UInt8.lt_trans h1 h2]
   ·by_cases h3 : z < y
    ·simp [h2, h3] at h'
    ·have e : y = z := UInt8.le_antisymm (UInt8.not_lt.1 h3) (UInt8.not_lt.1 h2)
     subst e; simp [h1]
  ·by_cases h2 : y < x
   ·simp [h1, h2] at h
   ·have e : x = y := UInt8.le_antisymm (UInt8.not_lt.1 h2) (UInt8.not_lt.1 h1)
    subst e
    by_cases h3 : x < z
    ·simp [h3]
    ·by_cases h4 : z < x
     ·simp [h3, h4] at h'
     ·simp only [h1, if_false] at h
      simp only [h3, h4, if_false] at h' ⊢
      exact ih h h'
theorem cmpS_eq0 (a b : ByteArray) : cmpS a b = 0 ↔ a = b := by
 unfold cmpS
 rw [cmpL_eq0]
 exact ⟨fun h => ByteArray.ext (Array.toList_inj.1 h), fun h => by rw [h]⟩
theorem cmpS_trans {a b c : ByteArray} (h : cmpS a b < 0) (h' : cmpS b c < 0) : cmpS a c < 0 := cmpL_trans _ _ _ h h'
def Rising (l : List ByteArray) : Prop := ∀ i j : Nat, ∀ h : j < l.length, ∀ h' : i < j, cmpS (l[i]'(by omega)) l[j] < 0
theorem Rising.inj {l : List ByteArray} (h : Rising l) {i j : Nat} (hi : i < l.length) (hj : j < l.length) (e : l[i] = l[j]) : i = j := by
 rcases Nat.lt_trichotomy i j with h1 | h1 | h1
 ·have := h i j hj h1
  rw [e] at this
  have h0 := (cmpS_eq0 l[j] l[j]).2 rfl
  omega
 ·exact h1
 ·have := h j i hi h1
  rw [e] at this
  have h0 := (cmpS_eq0 l[j] l[j]).2 rfl
  omega
end Go.Proofs.YtahlodpolggeiaaGreatDoor
set_option linter.unusedVariables false
set_option linter.unusedSimpArgs false
namespace Go.Proofs.YtahlodpolggeiaaGreatDoor
open Go Go.Lib Go.Proofs.YtahlodpolggeiaaGreatDoor.Eng
def plainC (c : UInt8) : Bool := decide (33 ≤ c.toNat ∧ c.toNat ≤ 126)
def plainB (s : ByteArray) : Bool := s.data.toList.all plainC
theorem get_list {s : ByteArray} {k : Nat} (h : k < s.size) : s[k] = s.data.toList[k]'(by rw [← size_list]; exact h) := by
 rfl
theorem idx_plain (s : ByteArray) : ∀ (f pos : Nat), s.size - pos ≤ f → decide (0 ≤ idxFuncFrom notPlain true s f pos) = !(s.data.toList.drop pos).all plainC
 | 0, pos, h => by
  have hl := size_list s
  rw [List.drop_eq_nil_of_le (by omega)]
  rfl
 | f + 1, pos, h => by
  have hl := size_list s
  unfold idxFuncFrom
  by_cases hp : pos < s.size
  ·rw [if_pos hp]
   have hlt : pos < s.data.toList.length := by omega
   rw [List.drop_eq_getElem_cons hlt, List.all_cons]
   have hg := get_list hp
   by_cases ha : (s[pos]'hp).toNat < 128
   ·rw [decode_ascii s pos hp ha]
    simp only
    rw [hg]
    rw [hg] at ha
    by_cases hn : notPlain (s.data.toList[pos]).toNat = true
    ·rw [if_pos hn]
     have : plainC s.data.toList[pos] = false := by
      unfold plainC
      unfold notPlain at hn
      have := of_decide_eq_true hn
      exact decide_eq_false (by omega)
     rw [this, Bool.false_and, decide_eq_true (by omega)]; rfl
    ·rw [if_neg hn, idx_plain s f (pos + 1) (by omega)]
     have : plainC s.data.toList[pos] = true := by
      unfold plainC
      unfold notPlain at hn
      have : ¬ ((s.data.toList[pos]).toNat < 33 ∨ 126 < (s.data.toList[pos]).toNat) := fun h => hn (decide_eq_true h)
      exact decide_eq_true (by omega)
     rw [this, Bool.true_and]
   ·have hd := decode_high s pos hp (by omega)
    have hn : notPlain (Utf8.decode s pos).1 = true := decide_eq_true (by omega)
    rw [if_pos hn]
    have : plainC s.data.toList[pos] = false := by
     unfold plainC
     rw [← hg]
     exact decide_eq_false (by omega)
    rw [this, Bool.false_and, decide_eq_true (by omega)]; rfl
  ·rw [if_neg hp, List.drop_eq_nil_of_le (by omega)]
   rfl
theorem isPlain_eq (s : ByteArray) : trust_isPlain.f s = some (plainB s) := by
 unfold trust_isPlain.f strings_ContainsFunc_f186.f
 have h := idx_plain s s.size 0 (by omega)
 rw [List.drop_zero] at h
 have h' : decide (0 ≤ idxFunc notPlain true s) = !plainB s := h
 rw [ob_s, h', Bool.not_not]
def wordC (c : UInt8) : Bool := decide (97 ≤ c.toNat ∧ c.toNat ≤ 122) || decide (48 ≤ c.toNat ∧ c.toNat ≤ 57) || decide (c.toNat = 45) || decide (c.toNat = 95)
theorem dropWhile_nil {p : UInt8 → Bool} : ∀ {l : List UInt8}, l.dropWhile p = [] ↔ l.all p = true
 | [] => by simp
 | x :: l => by
  rw [List.dropWhile_cons, List.all_cons]
  cases h : p x with
  | true => simp only [if_true, Bool.true_and]; exact dropWhile_nil
  | false => simp
theorem dropWhile_all {p : UInt8 → Bool} : ∀ {l : List UInt8}, (l.dropWhile p).all p = l.all p
 | [] => rfl
 | x :: l => by
  rw [List.dropWhile_cons]
  cases h : p x with
  | true => simp only [if_true, List.all_cons, h, Bool.true_and]; exact dropWhile_all
  | false => simp only [Bool.false_eq_true, if_false]
theorem trim_nil (l cs : List UInt8) : trimS l cs = [] ↔ l.all (fun c => cs.contains c) = true := by
 have e1 : trimLeftS (trimRightS l cs) cs = ((l.reverse.dropWhile (cs.contains ·)).reverse).dropWhile (cs.contains ·) := rfl
 unfold trimS
 rw [e1, dropWhile_nil, List.all_reverse, dropWhile_all, List.all_reverse]
abbrev wordCs : ByteArray := bs_97_98_99_100_101_102_103_104_105_106_107_108_109_110_111_112_113_114_115_116_117_118_119_120_121_122_48_49_50_51_52_53_54_55_56_57_95_45
theorem wordC_eq (c : UInt8) : wordCs.data.toList.contains c = wordC c := by
 have key : ∀ n : Fin 256, wordCs.data.toList.contains (UInt8.ofNat n.val) = wordC (UInt8.ofNat n.val) := by decide +kernel
 have h := key ⟨c.toNat, c.toNat_lt⟩
 simp only [UInt8.ofNat_toNat] at h
 exact h
def wordB (s : ByteArray) : Bool := if 1 ≤ s.size ∧ s.size ≤ 40 then (decide (97 ≤ (bt s 0).toNat ∧ (bt s 0).toNat ≤ 122) && s.data.toList.all wordC) else false
theorem isWord_eq (s : ByteArray) : config_IsWord.f s = some (wordB s) := by
 unfold config_IsWord.f wordB
 simp only [cb_dec]
 by_cases h1 : ((s.size : Nat) : Int) < 1
 ·rw [if_pos h1, if_neg (by omega)]
 ·by_cases h2 : (40 : Int) < ((s.size : Nat) : Int)
  ·rw [if_neg h1, if_pos h2, if_neg (by omega)]
  ·rw [if_neg h1, if_neg h2, ck_pos (by omega), ck_pos (by omega), if_pos (show 1 ≤ s.size ∧ s.size ≤ 40 by omega)]
   by_cases h3 : ((UInt8.toNat (bt s 0) : Nat) : Int) < 97
   ·rw [if_pos h3, decide_eq_false (by omega), Bool.false_and]
   ·by_cases h4 : (122 : Int) < ((UInt8.toNat (bt s 0) : Nat) : Int)
    ·rw [if_neg h3, if_pos h4, decide_eq_false (by omega), Bool.false_and]
    ·rw [if_neg h3, if_neg h4, decide_eq_true (by omega), Bool.true_and]
     unfold strings_Trim.f
     rw [ck_pos ⟨by omega, by decide, by decide +kernel⟩, ob_s]
     congr 1
     have h5 : (⟨(trimS s.data.toList wordCs.data.toList).toArray⟩ : ByteArray) = bs_ ↔ s.data.toList.all wordC = true := by
      have e : s.data.toList.all wordC = s.data.toList.all (fun c => wordCs.data.toList.contains c) := by
       congr 1; funext c; exact (wordC_eq c).symm
      rw [e, ← trim_nil]
      constructor
      ·intro h
       have := congrArg (fun b : ByteArray => b.data.toList) h
       have h7 : trimS s.data.toList wordCs.data.toList = bs_.data.toList := by simpa using this
       exact h7.trans rfl
      ·intro h
       rw [h]; rfl
     cases h6 : s.data.toList.all wordC with
     | true => exact decide_eq_true (h5.2 h6)
     | false => exact decide_eq_false (fun h => by rw [h5.1 h] at h6; cases h6)
end Go.Proofs.YtahlodpolggeiaaGreatDoor
set_option linter.unusedVariables false
set_option linter.unusedSimpArgs false
namespace Go.Proofs.YtahlodpolggeiaaGreatDoor
open Go Go.Lib Go.Proofs.YtahlodpolggeiaaGreatDoor.Eng
theorem L_ext {s t : ByteArray} (h : s.data.toList = t.data.toList) : s = t := by
 apply ByteArray.ext
 exact Array.toList_inj.1 h
theorem L_app (s t : ByteArray) : (s ++ t).data.toList = s.data.toList ++ t.data.toList := by simp
theorem L_ex (s : ByteArray) (a b : Nat) : (s.extract a b).data.toList = (s.data.toList.take b).drop a := by simp [ByteArray.data_extract, List.drop_take]
end Go.Proofs.YtahlodpolggeiaaGreatDoor
set_option linter.unusedVariables false
set_option linter.unusedSimpArgs false
namespace Go.Proofs.YtahlodpolggeiaaGreatDoor
open Go Go.Lib Go.Proofs.YtahlodpolggeiaaGreatDoor.Eng
theorem L_47 : bs_47_47.data.toList = [47, 47] := rfl
theorem L_58 : bs_58.data.toList = [58] := rfl
theorem hasP_iff {s p : ByteArray} : hasP s p = true ↔ ∃ t, s.data.toList = p.data.toList ++ t := by
 have hl := size_list s
 have hp := size_list p
 unfold hasP
 rw [Bool.and_eq_true, decide_eq_true_eq, decide_eq_true_eq]
 constructor
 ·rintro ⟨h1, h2⟩
  have h3 := congrArg (fun b : ByteArray => b.data.toList) h2
  simp only [L_ex, List.drop_zero] at h3
  exact ⟨s.data.toList.drop p.size, by rw [← h3, List.take_append_drop]⟩
 ·rintro ⟨t, ht⟩
  have hlen := congrArg List.length ht
  rw [List.length_append] at hlen
  refine ⟨by omega, L_ext ?_⟩
  rw [L_ex, List.drop_zero, ht, List.take_append_of_le_length (by omega), List.take_of_length_le (by omega)]
theorem cutP_yes {s p : ByteArray} {t : List UInt8} (h : s.data.toList = p.data.toList ++ t) : (cutP s p).2 = true ∧ (cutP s p).1.data.toList = t := by
 have hl := size_list s
 have hp := size_list p
 have hlen := congrArg List.length h
 rw [List.length_append] at hlen
 unfold cutP
 rw [if_pos (hasP_iff.2 ⟨t, h⟩)]
 refine ⟨rfl, ?_⟩
 show (s.extract p.size s.size).data.toList = t
 rw [L_ex, List.take_of_length_le (by omega), h, List.drop_append_of_le_length (by omega), List.drop_of_length_le (by omega), List.nil_append]
theorem cutP_no {s p : ByteArray} (h : ¬ ∃ t, s.data.toList = p.data.toList ++ t) : cutP s p = (s, false) := by
 unfold cutP
 rw [if_neg (fun h' => h (hasP_iff.1 h'))]
theorem colon (l : List UInt8) : (Lib.indexByte l 58 = -1 ∧ 58 ∉ l) ∨ ∃ a b, l = a ++ 58 :: b ∧ 58 ∉ a ∧ Lib.indexByte l 58 = (a.length : Int) := by
 have h1 := indexByte_lt l 58
 by_cases h : Lib.indexByte l 58 = -1
 ·refine .inl ⟨h, fun hm => ?_⟩
  obtain ⟨k, hk, he⟩ := List.getElem_of_mem hm
  exact indexByte_none h k (by rw [List.getElem?_eq_getElem hk, he])
 ·right
  obtain ⟨o, ho⟩ : ∃ o : Nat, Lib.indexByte l 58 = o := ⟨(Lib.indexByte l 58).toNat, by omega⟩
  obtain ⟨h2, h3⟩ := indexByte_some ho
  have hol : o < l.length := by omega
  refine ⟨l.take o, l.drop (o + 1), ?_, fun hm => ?_, ?_⟩
  ·have : l[o] = 58 := by rw [List.getElem?_eq_getElem hol] at h2; exact Option.some.inj h2
   rw [← this, ← List.drop_eq_getElem_cons hol, List.take_append_drop]
  ·obtain ⟨k, hk, he⟩ := List.getElem_of_mem hm
   have hko : k < o := by have := hk; simp at this; omega
   rw [List.getElem_take] at he
   exact h3 k hko (by rw [List.getElem?_eq_getElem (by omega), he])
  ·rw [ho, List.length_take]; omega
theorem index_of {a b : List UInt8} (h : 58 ∉ a) : Lib.indexByte (a ++ 58 :: b) 58 = (a.length : Int) := by
 rcases colon (a ++ 58 :: b) with ⟨_, h2⟩ | ⟨a', b', h2, h3, h4⟩
 ·exact absurd (by simp) h2
 ·have : a.length = a'.length := by
   have key : ∀ (a a' b b' : List UInt8), 58 ∉ a → 58 ∉ a' → a ++ 58 :: b = a' ++ 58 :: b' → a.length = a'.length := by
    intro a
    induction a with
    | nil =>
     intro a' b b' _ h2 h3
     cases a' with
     | nil => rfl
     | cons x a' =>
      injection h3 with e _
      exact absurd (e ▸ List.mem_cons_self ..) h2
    | cons x a ih =>
     intro a' b b' h1 h2 h3
     cases a' with
     | nil =>
      injection h3 with e _
      exact absurd (e ▸ List.mem_cons_self ..) h1
     | cons y a' =>
      injection h3 with _ e
      have := ih a' b b' (fun h => h1 (List.mem_cons_of_mem _ h)) (fun h => h2 (List.mem_cons_of_mem _ h)) e
      simp [this]
   exact key a a' b b' h h3 h2
  rw [h4, this]
theorem cut_yes {s : ByteArray} {a b : List UInt8} (hs : s.data.toList = a ++ 58 :: b) (h : 58 ∉ a) : (cut58 s).1.data.toList = a ∧ (cut58 s).2.1.data.toList = b ∧ (cut58 s).2.2 = true := by
 have hl := size_list s
 have hi : Lib.indexByte s.data.toList 58 = (a.length : Int) := by rw [hs]; exact index_of h
 have hlen := congrArg List.length hs
 rw [List.length_append, List.length_cons] at hlen
 unfold cut58
 rw [if_pos (by omega), hi, Int.toNat_natCast]
 refine ⟨?_, ?_, rfl⟩
 ·rw [L_ex, List.drop_zero, hs, List.take_append_of_le_length (Nat.le_refl _), List.take_of_length_le (Nat.le_refl _)]
 ·show (s.extract (a.length + 1) s.size).data.toList = b
  rw [L_ex, List.take_of_length_le (by omega), hs]
  have : a ++ 58 :: b = (a ++ [58]) ++ b := by simp
  rw [this, List.drop_append_of_le_length (by simp), List.drop_of_length_le (by simp), List.nil_append]
theorem cut_no {s : ByteArray} (h : 58 ∉ s.data.toList) : cut58 s = (s, bs_, false) := by
 rcases colon s.data.toList with ⟨h1, _⟩ | ⟨a, b, h1, _⟩
 ·unfold cut58
  rw [h1, if_neg (by decide)]
 ·exact absurd (by rw [h1]; simp) h
def IsLab (s : ByteArray) : Prop := ∃ x y : ByteArray, s.data.toList = [47, 47] ++ (x.data.toList ++ 58 :: y.data.toList) ∧ 58 ∉ x.data.toList ∧ labF (x, y) = 0
theorem whole_iff {s : ByteArray} (hs : s.size ≤ BIG) : ∃ b, script_IsWhole.f s = some b ∧ (b = true ↔ IsLab s) := by
 have hb : BIG = 140737488355328 := rfl
 have hl := size_list s
 have hw : ∀ a : ByteArray × ByteArray, a.1.size ≤ s.size → a.2.size ≤ s.size → script_Whole.f a = some (((bs_47_47 ++ a.1) ++ bs_58) ++ a.2) := fun a h1 h2 => by
  unfold script_Whole.f
  have e1 : bs_47_47.size = 2 := rfl
  have e2 : bs_58.size = 1 := rfl
  simp only [ByteArray.size_append, e1, e2]
  rw [ck_pos (by omega), ck_pos (by omega), ck_pos (by omega)]
 have hLw : ∀ a b : ByteArray, (((bs_47_47 ++ a) ++ bs_58) ++ b).data.toList = [47, 47] ++ (a.data.toList ++ 58 :: b.data.toList) := fun a b => by
  rw [L_app, L_app, L_app, L_47, L_58]; simp
 unfold script_IsWhole.f script_ReadLabel.f
 simp only [decide_true, Bool.not_true, cb_f, cutPrefix_eq, ob_s]
 by_cases hp : ∃ t, s.data.toList = bs_47_47.data.toList ++ t
 ·obtain ⟨t, ht⟩ := hp
  obtain ⟨c1, c2⟩ := cutP_yes ht
  have hsz : (cutP s bs_47_47).1.size ≤ s.size := by
   rw [size_list, c2]
   have := congrArg List.length ht
   rw [List.length_append] at this
   omega
  rw [L_47] at ht
  simp only [c1, cb_t, cut_eq (s := (cutP s bs_47_47).1) (by omega), ob_s]
  rcases colon (cutP s bs_47_47).1.data.toList with ⟨_, hno⟩ | ⟨a, b, h1, h2, _⟩
  ·rw [cut_no hno]
   obtain ⟨r, r1, r2⟩ := last_some (s := (cutP s bs_47_47).1) (by omega)
   simp only [Bool.not_false, cb_t, r1, ob_s, checkLabel_eq, cb_not, cb_dec]
   refine ⟨false, ?_, fun h => (by cases h), fun ⟨x, y, h3, _, _⟩ => ?_⟩
   ·by_cases h0 : labF ((cutP s bs_47_47).1, r) = 0
    ·rw [if_pos h0]
     simp only [ob_s, if_true]
     rw [hw _ hsz (by show r.size ≤ _; omega), ob_s]
     refine congrArg some (decide_eq_false fun e => ?_)
     have e2 := congrArg (fun b : ByteArray => b.data.toList) e
     simp only [hLw] at e2
     rw [ht, c2] at e2
     have := congrArg List.length e2
     simp at this
    ·rw [if_neg h0]
     simp only [ob_s]
     rw [if_neg (by decide)]
   ·rw [ht, List.append_cancel_left_eq] at h3
    rw [c2, h3] at hno
    exact (hno (by simp)).elim
  ·obtain ⟨e1, e2, e3⟩ := cut_yes h1 h2
   have hs1 : (cut58 (cutP s bs_47_47).1).1.size ≤ s.size ∧ (cut58 (cutP s bs_47_47).1).2.1.size ≤ s.size := by
    have := congrArg List.length h1
    rw [List.length_append, List.length_cons] at this
    have e4 := size_list (cutP s bs_47_47).1
    rw [size_list, size_list (cut58 (cutP s bs_47_47).1).2.1, e1, e2]
    omega
   simp only [e3, Bool.not_true, cb_f, checkLabel_eq, ob_s, cb_not, cb_dec]
   by_cases h0 : labF ((cut58 (cutP s bs_47_47).1).1, (cut58 (cutP s bs_47_47).1).2.1) = 0
   ·rw [if_pos h0]
    simp only [ob_s, if_true]
    rw [hw _ hs1.1 hs1.2, ob_s]
    refine ⟨true, congrArg some (decide_eq_true (L_ext ?_)), fun _ => ⟨_, _, ?_, ?_, h0⟩, fun _ => rfl⟩
    ·rw [hLw, e1, e2, ← h1, c2, ht]
    ·rw [e1, e2, ← h1, c2, ht]
    ·rw [e1]; exact h2
   ·rw [if_neg h0]
    simp only [ob_s]
    rw [if_neg (by decide)]
    refine ⟨false, rfl, fun h => (by cases h), fun ⟨x, y, h3, h4, h5⟩ => ?_⟩
    rw [ht, List.append_cancel_left_eq, ← c2] at h3
    obtain ⟨f1, f2, _⟩ := cut_yes h3 h4
    rw [L_ext f1, L_ext f2] at h0
    exact absurd h5 h0
 ·have hnl : ¬ IsLab s := fun ⟨x, y, h3, _, _⟩ => hp ⟨_, h3⟩
  rw [cutP_no hp]
  simp only [cb_f]
  have fin : ∀ a : ByteArray × ByteArray, a.1.size ≤ s.size → a.2.size ≤ s.size → (ob (ob (script_CheckLabel.f a) fun r16 => (cb (!decide (r16 = (0 : Int))) (some ((bs_, bs_), (10 : Int))) (some (a, (0 : Int))))) fun r1 => (cb (decide (r1.2 = (0 : Int))) (ob (script_Whole.f r1.1) fun r2 => (some (decide (r2 = s)))) (some false))) = some false := fun a h1 h2 => by
   rw [checkLabel_eq, ob_s, cb_not, cb_dec]
   by_cases h0 : labF a = 0
   ·rw [if_pos h0]
    simp only [ob_s, cb_dec, if_true]
    rw [hw a h1 h2, ob_s]
    refine congrArg some (decide_eq_false fun e => ?_)
    have e2 := congrArg (fun b : ByteArray => b.data.toList) e
    simp only [hLw] at e2
    exact hp ⟨_, e2.symm⟩
   ·rw [if_neg h0]
    simp only [ob_s, cb_dec]
    rw [if_neg (by decide)]
  refine ⟨false, ?_, fun h => (by cases h), fun h => absurd h hnl⟩
  by_cases hq : ∃ t, s.data.toList = bs_58.data.toList ++ t
  ·obtain ⟨t, ht⟩ := hq
   obtain ⟨c1, c2⟩ := cutP_yes ht
   rw [c1, cb_t]
   refine fin (bs_, (cutP s bs_58).1) (Nat.zero_le _) ?_
   show (cutP s bs_58).1.size ≤ _
   rw [size_list, c2]
   have := congrArg List.length ht
   rw [List.length_append] at this
   omega
  ·rw [cutP_no hq, cb_f]
   exact fin (bs_, bs_) (Nat.zero_le _) (Nat.zero_le _)
end Go.Proofs.YtahlodpolggeiaaGreatDoor
set_option linter.unusedVariables false
set_option linter.unusedSimpArgs false
namespace Go.Proofs.YtahlodpolggeiaaGreatDoor
open Go Go.Lib Go.Proofs.YtahlodpolggeiaaGreatDoor.Eng
abbrev Wr := ByteArray × (ByteArray × ((List ByteArray) × (Int × Int)))
theorem ck_neg {β : Type} {c : Prop} {a : Option β} (h : ¬ c) : ck c a = none := by unfold ck; rw [if_neg h]
theorem prefix_eq (s p : ByteArray) : strings_HasPrefix.f s p = some (hasP s p) := by
 unfold strings_HasPrefix.f
 rw [hasPrefix_eq]; rfl
def szW (w : Wr) : Prop := w.1.size ≤ 100000000000 ∧ w.2.1.size ≤ 100000000000 ∧ ∀ y ∈ w.2.2.1, y.size ≤ 100000000000
theorem within_eq (a b c : Int) : trust_within.f a b c = some (decide (b ≤ a ∧ a ≤ c)) := by
 unfold trust_within.f
 rw [cb_dec]
 by_cases h : b ≤ a <;> simp [h]
end Go.Proofs.YtahlodpolggeiaaGreatDoor
set_option linter.unusedVariables false
set_option linter.unusedSimpArgs false
namespace Go.Proofs.YtahlodpolggeiaaGreatDoor
open Go Go.Lib Go.Proofs.YtahlodpolggeiaaGreatDoor.Eng
def labs (g : List Wr) : List ByteArray := g.map (·.1)
theorem labs_get {g : List Wr} {k : Nat} (h : k < g.length) : (labs g)[k]'(by unfold labs; simpa using h) = g[k].1 := by simp [labs]
theorem find1_eq (n : Wr) (s : ByteArray) : trust_find_1.f n s = some (cmpS n.1 s) := rfl
theorem half {a b : Nat} (ha : a ≤ 100000000000) (hb : b ≤ 100000000000) : IntKind.i64.wrap (Int.fdiv (IntKind.u64.wrap ((a : Int) + (b : Int))) (2 ^ min (Int.toNat (1 : Int)) (IntKind.bits .u64))) = ((a + b) / 2 : Nat) := by
 have e1 : IntKind.u64.wrap ((a : Int) + (b : Int)) = ((a + b : Nat) : Int) := by
  simp only [IntKind.wrap, IntKind.bits, IntKind.signed, Bool.false_and, Bool.false_eq_true, if_false]
  have e : (2 : Int) ^ 64 = 18446744073709551616 := by decide
  rw [e]; omega
 have e2 : (2 : Int) ^ min (Int.toNat (1 : Int)) (IntKind.bits .u64) = 2 := by decide
 rw [e1, e2]
 have e3 : Int.fdiv ((a + b : Nat) : Int) 2 = ((a + b) / 2 : Nat) := by
  rw [Int.fdiv_eq_ediv_of_nonneg _ (by decide)]; omega
 rw [e3]
 exact IntWalk.i64_in _ ⟨by omega, by omega⟩
theorem find_ok {g : List Wr} (hl : g.length ≤ 1000) (hr : Rising (labs g)) (s : ByteArray) : ∃ r, trust_find.f g s = some r ∧ ((r.2 = false ∧ ∀ k : Nat, ∀ h : k < g.length, g[k].1 ≠ s) ∨ ∃ k : Nat, ∃ h : k < g.length, r = (g[k], true) ∧ g[k].1 = s) := by
 have go : ∀ (n a b : Nat), b - a = n → a ≤ b → b ≤ g.length → (∀ k : Nat, ∀ h : k < g.length, k < a → cmpS g[k].1 s < 0) → (∀ k : Nat, ∀ h : k < g.length, b ≤ k → ¬ cmpS g[k].1 s < 0) →
   ∃ c : Nat, slices_BinarySearchFunc_api_Writer_api_Writer_string_f123.l0 g s (a : Int) (b : Int) = some (c : Int) ∧ c ≤ g.length ∧ (∀ k : Nat, ∀ h : k < g.length, k < c → cmpS g[k].1 s < 0) ∧ (∀ k : Nat, ∀ h : k < g.length, c ≤ k → ¬ cmpS g[k].1 s < 0) := by
  intro n
  induction n using Nat.strongRecOn with
  | _ n ih =>
   intro a b hn hab hb h1 h2
   rcases Nat.lt_or_ge a b with hlt | hge
   ·have hm : (a + b) / 2 < g.length := by omega
    have hh := half (a := a) (b := b) (by omega) (by omega)
    have hmono : ∀ i j : Nat, ∀ hi : i < g.length, ∀ hj : j < g.length, i < j → cmpS g[i].1 g[j].1 < 0 := fun i j hi hj hij => by
     have := hr i j (by unfold labs; simpa using hj) hij
     rw [labs_get hi, labs_get hj] at this
     exact this
    by_cases hc : cmpS g[(a + b) / 2].1 s < 0
    ·obtain ⟨c, h3, h4⟩ := ih (b - ((a + b) / 2 + 1)) (by omega) ((a + b) / 2 + 1) b rfl (by omega) hb (fun k hk hka => by
      rcases Nat.lt_or_ge k ((a + b) / 2) with h | h
      ·exact cmpS_trans (hmono k _ hk hm h) hc
      ·have : k = (a + b) / 2 := by omega
       subst this; exact hc) h2
     refine ⟨c, (loopX_next ?_).trans h3, h4⟩
     simp only [slices_BinarySearchFunc_api_Writer_api_Writer_string_f123.s0, cb_dec, hh, rd_lt hm, find1_eq, ob_s]
     rw [if_pos (by omega), ck_in (by omega) (by omega), ck_pos (by omega), if_pos hc, ck_in (by omega) (by omega)]
     rfl
    ·obtain ⟨c, h3, h4⟩ := ih ((a + b) / 2 - a) (by omega) a ((a + b) / 2) rfl (by omega) (by omega) h1 (fun k hk hka => by
      intro h
      rcases Nat.lt_or_ge ((a + b) / 2) k with h5 | h5
      ·exact hc (cmpS_trans (hmono _ k hm hk h5) h)
      ·have : k = (a + b) / 2 := by omega
       subst this; exact hc h)
     refine ⟨c, (loopX_next ?_).trans h3, h4⟩
     simp only [slices_BinarySearchFunc_api_Writer_api_Writer_string_f123.s0, cb_dec, hh, rd_lt hm, find1_eq, ob_s]
     rw [if_pos (by omega), ck_in (by omega) (by omega), ck_pos (by omega), if_neg hc]
   ·have e : a = b := by omega
    subst e
    refine ⟨a, loopX_done ?_, hb, h1, h2⟩
    simp only [slices_BinarySearchFunc_api_Writer_api_Writer_string_f123.s0, cb_dec]
    rw [if_neg (by omega)]
 obtain ⟨c, h1, h2, h3, h4⟩ := go _ 0 g.length rfl (Nat.zero_le _) (Nat.le_refl _) (fun k _ h => absurd h (Nat.not_lt_zero _)) (fun k hk h => by omega)
 rw [show ((0 : Nat) : Int) = 0 from rfl] at h1
 unfold trust_find.f slices_BinarySearchFunc_api_Writer_api_Writer_string_f123.f
 simp only [h1, ob_s, cb_dec]
 by_cases hc : c < g.length
 ·rw [if_pos (by omega), ck_pos (by omega)]
  simp only [rd_lt hc, find1_eq, ob_s]
  by_cases h0 : cmpS g[c].1 s = 0
  ·simp only [h0, decide_true, Bool.not_true, cb_f]
   rw [ck_pos (by omega)]
   exact ⟨_, rfl, .inr ⟨c, hc, rfl, (cmpS_eq0 _ _).1 h0⟩⟩
  ·simp only [h0, decide_false, Bool.not_false, cb_t]
   refine ⟨_, rfl, .inl ⟨rfl, fun k hk e => ?_⟩⟩
   have hz : cmpS g[k].1 s = 0 := (cmpS_eq0 _ _).2 e
   rcases Nat.lt_trichotomy k c with h | h | h
   ·have := h3 k hk h; omega
   ·subst h; exact h0 hz
   ·have h5 := hr c k (by unfold labs; simpa using hk) h
    rw [labs_get hc, labs_get hk, e] at h5
    exact h4 c hc (Nat.le_refl _) h5
 ·rw [if_neg (by omega)]
  simp only [ob_s, Bool.not_false, cb_t]
  refine ⟨_, rfl, .inl ⟨rfl, fun k hk e => ?_⟩⟩
  have hz : cmpS g[k].1 s = 0 := (cmpS_eq0 _ _).2 e
  have := h3 k hk (by omega)
  omega
def mayB (w : Wr) (s : ByteArray) (t : Int) : Bool := decide (w.2.2.2.1 ≤ t) && (decide (t < w.2.2.2.2) && w.2.2.1.any (fun p => hasP s p))
theorem may_eq {w : Wr} (hw : w.2.2.1.length ≤ 100000000000) (s : ByteArray) (t : Int) : trust_may.f w s t = some (mayB w s t) := by
 have go : ∀ (n k : Nat), w.2.2.1.length - k = n → ∃ r, slices_IndexFunc_string_string_f129.l0 w.2.2.1 s (w.2.2.1.length : Int) (k : Int) = some r ∧ ((r = .inr () ∧ (w.2.2.1.drop k).any (fun p => hasP s p) = false) ∨ ∃ i : Nat, r = .inl (i : Int) ∧ (w.2.2.1.drop k).any (fun p => hasP s p) = true) := by
  intro n
  induction n with
  | zero =>
   intro k hn
   refine ⟨.inr (), loopX_done ?_, .inl ⟨rfl, by rw [List.drop_eq_nil_of_le (by omega)]; rfl⟩⟩
   simp only [slices_IndexFunc_string_string_f129.s0, cb_dec]
   rw [if_neg (by omega)]
  | succ n ih =>
   intro k hn
   have hlt : k < w.2.2.1.length := by omega
   rw [List.drop_eq_getElem_cons hlt, List.any_cons]
   cases e : hasP s w.2.2.1[k] with
   | true =>
    refine ⟨.inl (k : Int), loopX_done ?_, .inr ⟨k, rfl, rfl⟩⟩
    simp only [slices_IndexFunc_string_string_f129.s0, cb_dec, rd_lt hlt, trust_may_1.f, prefix_eq, e, ob_s, cb_t]
    rw [if_pos (by omega), ck_pos (by omega)]
   | false =>
    obtain ⟨r, h1, h2⟩ := ih (k + 1) (by omega)
    refine ⟨r, (loopX_next ?_).trans h1, by simpa using h2⟩
    simp only [slices_IndexFunc_string_string_f129.s0, cb_dec, rd_lt hlt, trust_may_1.f, prefix_eq, e, ob_s, cb_f]
    rw [if_pos (by omega), ck_pos (by omega), ck_in (by omega) (by omega)]
    rfl
 obtain ⟨r, h1, h2⟩ := go _ 0 rfl
 rw [show ((0 : Nat) : Int) = 0 from rfl, List.drop_zero] at *
 have hc : slices_ContainsFunc_string_string_f129.f w.2.2.1 s = some (w.2.2.1.any (fun p => hasP s p)) := by
  unfold slices_ContainsFunc_string_string_f129.f slices_IndexFunc_string_string_f129.f
  simp only [h1, ob_s]
  rcases h2 with ⟨rfl, h3⟩ | ⟨i, rfl, h3⟩
  ·rw [h3]; rfl
  ·rw [h3]
   simp only [caseS_l, ob_s]
   rw [decide_eq_true (by omega)]
 unfold trust_may.f mayB
 simp only [hc, ob_s]
 cases decide (w.2.2.2.1 ≤ t) with
 | false => rfl
 | true =>
  cases decide (t < w.2.2.2.2) with
  | false => rfl
  | true => rfl
end Go.Proofs.YtahlodpolggeiaaGreatDoor
set_option linter.unusedVariables false
set_option linter.unusedSimpArgs false
namespace Go.Proofs.YtahlodpolggeiaaGreatDoor
open Go Go.Lib Go.Proofs.YtahlodpolggeiaaGreatDoor.Eng
theorem equalS {l : List ByteArray} (hl : l.length ≤ 1000000000000) : slices_Equal_string_string.f l l = some true := by
 have go : ∀ (n k : Nat), l.length - k = n → slices_Equal_string_string.l0 l l (l.length : Int) (k : Int) = some (.inr ()) := by
  intro n
  induction n with
  | zero =>
   intro k hn
   refine loopX_done ?_
   simp only [slices_Equal_string_string.s0, cb_dec]
   rw [if_neg (by omega)]
  | succ n ih =>
   intro k hn
   have hlt : k < l.length := by omega
   refine (loopX_next ?_).trans (ih (k + 1) (by omega))
   simp only [slices_Equal_string_string.s0, cb_dec, rd_lt hlt, cb_not, if_true]
   rw [if_pos (by omega), ck_pos (by omega), ck_pos (by omega), ck_in (by omega) (by omega)]
   rfl
 have h := go l.length 0 (by omega)
 rw [show ((0 : Nat) : Int) = 0 from rfl] at h
 unfold slices_Equal_string_string.f
 simp only [cb_not, cb_dec, if_true, h, ob_s, caseS_r]
theorem ck_dec {β : Type} {c : Prop} [h : Decidable c] {a : Option β} : ck c a = if c then a else none := by
 by_cases hc : c
 ·rw [ck_pos hc, if_pos hc]
 ·rw [ck_neg hc, if_neg hc]
local instance (x : Int) : Decidable (InR x) := inferInstanceAs (Decidable (_ ∧ _))
theorem split_none {s : ByteArray} (hs : s.size ≤ 100000000000) (h : Lib.countByte s.data.toList 47 = 0) : splitL s = [s] := by
 have h1 : strings_Split.f s bs_47 = some [s] := by
  have hcnt : strings_Count.f s bs_47 = some 0 := by
   unfold strings_Count.f
   rw [ck_pos (by rfl)]
   show some ((Lib.countByte s.data.toList 47 : Nat) : Int) = _
   rw [h]; rfl
  have l : strings_genSplit.l0 bs_47 0 (1 - 1) s 0 (List.replicate 1 ByteArray.empty) = some (s, 0, List.replicate 1 ByteArray.empty) := loopX_done (by rfl)
  have e : ((min (0 + 1) (((s.size : Nat) : Int) + 1) : Int)) = 1 := by omega
  have e1 : Int.toNat 1 = 1 := rfl
  unfold strings_Split.f strings_genSplit.f
  simp only [hcnt, ob_s, e, e1, l]
  rw [show decide ((-1 : Int) = 0) = false from rfl, cb_f, show decide (bs_47 = bs_) = false from rfl, cb_f, show decide ((-1 : Int) < 0) = true from rfl, cb_t, ck_in (by omega) (by omega), ck_in (by omega) (by omega), ck_pos (by omega), ck_in (by omega) (by omega)]
  simp only [ck_dec]
  rfl
 unfold splitL
 rw [h1]; rfl
abbrev W1 : Wr := (bs_97, (bs_115, ([bs_47_47_97_112_112], (0, 5))))
theorem writer1 : trust_checkWriter.f W1 = some 0 := by
 have l : trust_checkWriter.l0 W1 [bs_47_47_97_112_112] 1 0 = some (.inr ()) := by
  refine (loopX_next (x' := 1) ?_).trans (loopX_done (by rfl))
  have e : rd ByteArray.empty [bs_47_47_97_112_112] 0 = bs_47_47_97_112_112 := rfl
  simp only [trust_checkWriter.s0, e, prefix_eq, isPlain_eq, ob_s, show hasP bs_47_47_97_112_112 bs_47_47 = true from by decide, show plainB bs_47_47_97_112_112 = true from by decide, ck_dec]
  rfl
 have s1 : trust_isSecret.f bs_115 = some true := by
  unfold trust_isSecret.f
  rw [isPlain_eq, show plainB bs_115 = true from by decide]
  rfl
 unfold trust_checkWriter.f
 simp only [isWord_eq, show wordB bs_97 = true from by decide, s1, ob_s, within_eq]
 show cb _ _ (cb _ _ (cb _ _ (ob (trust_checkWriter.l0 W1 [bs_47_47_97_112_112] 1 0) _))) = _
 rw [l]
 rfl
theorem check1 : trust_CheckWriters.f [W1] = some 0 := by
 have l : trust_CheckWriters.l0 [W1] [W1] 1 0 = some (.inr ()) := by
  refine (loopX_next (x' := 1) ?_).trans (loopX_done (by rfl))
  have e : rd (ByteArray.empty, (ByteArray.empty, (([] : List ByteArray), ((0 : Int), (0 : Int))))) [W1] 0 = W1 := rfl
  simp only [trust_CheckWriters.s0, e, writer1, ob_s, ck_dec]
  rfl
 unfold trust_CheckWriters.f
 show cb _ _ (ob (trust_CheckWriters.l0 [W1] [W1] 1 0) _) = _
 rw [l]
 rfl
def bs_ap : ByteArray := ⟨#[97, 112, 112, 108, 101]⟩
def bs_x : ByteArray := ⟨#[120]⟩
theorem whole1 : script_IsWhole.f bs_47_47_97_112_112_108_101_58_120 = some true := by
 obtain ⟨b, h1, h2⟩ := whole_iff (s := bs_47_47_97_112_112_108_101_58_120) (by decide)
 have : b = true := h2.2 ⟨bs_ap, bs_x, rfl, by decide, by
  unfold labF isPathB
  rw [split_none (s := bs_ap) (by decide) (by decide), split_none (s := bs_x) (by decide) (by decide)]
  rfl⟩
 rw [h1, this]
theorem may1 (t : Int) (h0 : 0 ≤ t) (h1 : t ≤ 1000000000) : trust_May.f [W1] bs_97 bs_47_47_97_112_112_108_101_58_120 t = some (mayB W1 bs_47_47_97_112_112_108_101_58_120 t, 0) := by
 have hr : Rising (labs [W1]) := fun i j h h' => by
  have : j < 1 := h
  omega
 obtain ⟨r, r1, r2⟩ := find_ok (g := [W1]) (by decide) hr bs_97
 have hr2 : r = (W1, true) := by
  rcases r2 with ⟨_, h⟩ | ⟨k, hk, e, _⟩
  ·exact absurd rfl (h 0 (by decide))
  ·have : k = 0 := by simp at hk; exact hk
   subst this
   exact e
 unfold trust_May.f
 simp only [check1, ob_s, isWord_eq, show wordB bs_97 = true from by decide, whole1, within_eq, decide_eq_true (show 0 ≤ t ∧ t ≤ 1000000000 from ⟨h0, h1⟩), r1, hr2, may_eq (w := W1) (by decide)]
 rfl
theorem awake11 : law11_awake.f = some true := by
 have m1 : mayB W1 bs_47_47_97_112_112_108_101_58_120 4 = true := by decide
 have m2 : mayB W1 bs_47_47_97_112_112_108_101_58_120 5 = false := by decide
 have a1 := may1 4 (by decide) (by decide)
 have a2 := may1 5 (by decide) (by decide)
 rw [m1] at a1
 rw [m2] at a2
 unfold law11_awake.f
 show ob (trust_May.f [W1] bs_97 bs_47_47_97_112_112_108_101_58_120 4) _ = _
 rw [a1, ob_s]
 show ob (trust_May.f [W1] bs_97 bs_47_47_97_112_112_108_101_58_120 5) _ = _
 rw [a2, ob_s]
 rfl
end Go.Proofs.YtahlodpolggeiaaGreatDoor
set_option linter.unusedVariables false
set_option linter.unusedSimpArgs false
namespace Go.Proofs.YtahlodpolggeiaaGreatDoor
open Go Go.Lib Go.Proofs.YtahlodpolggeiaaGreatDoor.Eng
abbrev Cl := ByteArray × (ByteArray × (ByteArray × (ByteArray × (Int × ((List ByteArray) × ByteArray)))))
def szC (c : Cl) : Prop := c.2.1.size ≤ BIG
abbrev hexCs : ByteArray := bs_48_49_50_51_52_53_54_55_56_57_97_98_99_100_101_102
def digC (c : UInt8) : Bool := decide (48 ≤ c.toNat ∧ c.toNat ≤ 57) || decide (97 ≤ c.toNat ∧ c.toNat ≤ 102)
theorem digC_eq (c : UInt8) : hexCs.data.toList.contains c = digC c := by
 have h : ((List.range 256).all fun n => hexCs.data.toList.contains (UInt8.ofNat n) == digC (UInt8.ofNat n)) = true := by decide +kernel
 have := List.all_eq_true.1 h c.toNat (List.mem_range.2 c.toNat_lt)
 simpa using this
def digB (s : ByteArray) : Bool := decide (s.size = 16) && s.data.toList.all digC
theorem isDigest_eq (s : ByteArray) : blob_IsDigest.f s = some (digB s) := by
 unfold blob_IsDigest.f digB
 simp only [cb_dec]
 by_cases h : s.size = 16
 ·rw [if_pos (by omega)]
  unfold strings_Trim.f
  rw [ck_pos ⟨by omega, by decide, by decide +kernel⟩, ob_s]
  congr 1
  rw [decide_eq_true h, Bool.true_and]
  have e : (⟨(trimS s.data.toList hexCs.data.toList).toArray⟩ = bs_) ↔ s.data.toList.all digC = true := by
   rw [show (s.data.toList.all digC = true) ↔ (s.data.toList.all (fun c => hexCs.data.toList.contains c) = true) by simp only [digC_eq], ← trim_nil]
   constructor
   ·intro h
    have := congrArg (fun b : ByteArray => b.data.toList) h
    simpa [bs_] using this
   ·intro h
    rw [h]; rfl
  cases hh : s.data.toList.all digC with
  | true => exact decide_eq_true (e.2 hh)
  | false => exact decide_eq_false (fun h => by rw [e.1 h] at hh; cases hh)
 ·rw [if_neg (by omega), decide_eq_false h]; rfl
theorem digB_size {s : ByteArray} (h : digB s = true) : s.size = 16 := by
 unfold digB at h
 simp only [Bool.and_eq_true, decide_eq_true_eq] at h
 exact h.1
theorem wordB_size {s : ByteArray} (h : wordB s = true) : s.size ≤ 40 := by
 unfold wordB at h
 split at h
 ·rename_i h1; exact h1.2
 ·cases h
theorem usesLoop {c : Cl} (hn : c.2.2.2.2.2.1.length ≤ 50) : ∀ (n k : Nat), c.2.2.2.2.2.1.length - k = n → ∃ r, trust_checkClaimed.l0 c c.2.2.2.2.2.1 (c.2.2.2.2.2.1.length : Int) (k : Int) = some r ∧ ((r = .inr () ∧ ∀ j : Nat, ∀ h : j < c.2.2.2.2.2.1.length, k ≤ j → digB c.2.2.2.2.2.1[j] = true) ∨ ∃ f : Int, f ≠ 0 ∧ r = .inl f) := by
 intro n
 induction n with
 | zero =>
  intro k hk
  refine ⟨.inr (), loopX_done ?_, .inl ⟨rfl, fun j h1 h2 => by omega⟩⟩
  simp only [trust_checkClaimed.s0, cb_dec]
  rw [if_neg (by omega)]
 | succ n ih =>
  intro k hk
  have hlt : k < c.2.2.2.2.2.1.length := by omega
  obtain ⟨r, h1, h2⟩ := ih (k + 1) (by omega)
  have e : ((k : Int) + 1) = ((k + 1 : Nat) : Int) := by omega
  by_cases hd : digB c.2.2.2.2.2.1[k] = true
  ·have next : trust_checkClaimed.s0 c c.2.2.2.2.2.1 (c.2.2.2.2.2.1.length : Int) (k : Int) = some (.inl ((k + 1 : Nat) : Int)) ∨ trust_checkClaimed.s0 c c.2.2.2.2.2.1 (c.2.2.2.2.2.1.length : Int) (k : Int) = some (.inr (.inl 8)) := by
    simp only [trust_checkClaimed.s0, cb_dec]
    rw [if_pos (by omega), ck_pos ⟨by omega, by omega⟩, rd_lt hlt]
    simp only [isDigest_eq, hd, ob_s, Bool.not_true, cb_f]
    by_cases h0 : 0 < k
    ·rw [if_pos (by omega), ck_in (by omega) (by omega), ck_pos ⟨by omega, by omega⟩]
     cases bless c.2.2.2.2.2.1[k] (rd ByteArray.empty c.2.2.2.2.2.1 ((k : Int) - 1)) || decide (c.2.2.2.2.2.1[k] = rd ByteArray.empty c.2.2.2.2.2.1 ((k : Int) - 1)) with
     | true => exact .inr rfl
     | false => rw [cb_f, ck_in (by omega) (by omega), e]; exact .inl rfl
    ·rw [if_neg (by omega), ck_in (by omega) (by omega), e]; exact .inl rfl
   rcases next with hs | hs
   ·refine ⟨r, (loopX_next hs).trans h1, ?_⟩
    rcases h2 with ⟨h2, h3⟩ | h2
    ·refine .inl ⟨h2, fun j hj hkj => ?_⟩
     rcases Nat.eq_or_lt_of_le hkj with rfl | h4
     ·exact hd
     ·exact h3 j hj h4
    ·exact .inr h2
   ·exact ⟨.inl 8, loopX_done hs, .inr ⟨8, by decide, rfl⟩⟩
  ·refine ⟨.inl 3, loopX_done ?_, .inr ⟨3, by decide, rfl⟩⟩
   simp only [trust_checkClaimed.s0, cb_dec]
   rw [if_pos (by omega), ck_pos ⟨by omega, by omega⟩, rd_lt hlt]
   simp only [isDigest_eq, Bool.not_eq_true _ ▸ hd, ob_s]
   rfl
structure OkC (c : Cl) : Prop where
 key : digB c.1 = true
 label : c.2.1.size ≤ 403
 whole : script_IsWhole.f c.2.1 = some true
 result : digB c.2.2.1 = true
 writer : wordB c.2.2.2.1 = true
 at0 : 0 ≤ c.2.2.2.2.1
 at1 : c.2.2.2.2.1 ≤ 1000000000
 many : c.2.2.2.2.2.1.length ≤ 50
 uses : ∀ y ∈ c.2.2.2.2.2.1, y.size = 16
 sign : c.2.2.2.2.2.2.size ≤ 16
theorem IsLab.size {s : ByteArray} (h : IsLab s) : s.size ≤ 403 := by
 obtain ⟨x, y, h1, h2, h3⟩ := h
 have hp : ∀ z : ByteArray, isPathB z = true → z.size ≤ 200 := fun z hz => by
  unfold isPathB at hz
  split at hz
  ·rename_i h; exact h.2
  ·cases hz
 unfold labF at h3
 split at h3
 ·rename_i h4
  have hx : x.size ≤ 200 := by
   rcases h4.1 with h5 | h5
   ·have h5 : x = bs_ := h5
    rw [h5]; decide
   ·exact hp _ h5
  have hy := hp _ h4.2
  have hl := congrArg List.length h1
  simp only [List.length_append, List.length_cons, List.length_nil] at hl
  rw [← size_list, ← size_list, ← size_list] at hl
  have hx : ByteArray.size x ≤ 200 := hx
  have hy : ByteArray.size y ≤ 200 := hy
  omega
 ·cases h3
theorem checkC {c : Cl} (hs : szC c) : ∃ f : Int, trust_checkClaimed.f c = some f ∧ (f = 0 → OkC c) := by
 obtain ⟨b, hb, hbl⟩ := whole_iff (s := c.2.1) hs
 unfold trust_checkClaimed.f
 simp only [isDigest_eq, isWord_eq, within_eq, hb, ob_s, cb_not]
 cases g1 : digB c.1 with
 | false => exact ⟨3, rfl, fun h => by cases h⟩
 | true =>
  cases b with
  | false => exact ⟨10, rfl, fun h => by cases h⟩
  | true =>
   have gl := IsLab.size (hbl.1 rfl)
   cases g3 : digB c.2.2.1 with
   | false => exact ⟨3, rfl, fun h => by cases h⟩
   | true =>
    cases g4 : wordB c.2.2.2.1 with
    | false => exact ⟨5, rfl, fun h => by cases h⟩
    | true =>
     simp only [cb_t, cb_dec]
     by_cases g5 : (0 : Int) ≤ c.2.2.2.2.1 ∧ c.2.2.2.2.1 ≤ 1000000000
     ·rw [if_pos g5]
      by_cases g6 : 50 < c.2.2.2.2.2.1.length
      ·rw [if_pos (by omega)]
       exact ⟨2, rfl, fun h => by cases h⟩
      ·rw [if_neg (by omega)]
       obtain ⟨r, h8, h9⟩ := usesLoop (c := c) (by omega) _ 0 rfl
       rw [show ((0 : Nat) : Int) = 0 from rfl] at h8
       rw [h8, ob_s]
       rcases h9 with ⟨rfl, h9⟩ | ⟨f, hf, rfl⟩
       ·rw [caseS_r]
        by_cases g7 : c.2.2.2.2.2.2 = bs_
        ·rw [if_pos g7]
         refine ⟨0, rfl, fun _ => ⟨g1, gl, hb, g3, g4, g5.1, g5.2, by omega, fun y hy => ?_, by rw [g7]; decide⟩⟩
         obtain ⟨j, hj, rfl⟩ := List.getElem_of_mem hy
         exact digB_size (h9 j hj (Nat.zero_le _))
        ·rw [if_neg g7]
         cases g8 : digB c.2.2.2.2.2.2 with
         | false => exact ⟨3, rfl, fun h => by cases h⟩
         | true =>
          refine ⟨0, rfl, fun _ => ⟨g1, gl, hb, g3, g4, g5.1, g5.2, by omega, fun y hy => ?_, by rw [digB_size g8]; decide⟩⟩
          obtain ⟨j, hj, rfl⟩ := List.getElem_of_mem hy
          exact digB_size (h9 j hj (Nat.zero_le _))
       ·rw [caseS_l]
        exact ⟨f, rfl, fun h => absurd h hf⟩
     ·rw [if_neg g5]
      exact ⟨1, rfl, fun h => by cases h⟩
end Go.Proofs.YtahlodpolggeiaaGreatDoor
set_option linter.unusedVariables false
set_option linter.unusedSimpArgs false
namespace Go.Proofs.YtahlodpolggeiaaGreatDoor
open Go Go.Lib Go.Proofs.YtahlodpolggeiaaGreatDoor.Eng
def hstep (h : Int) (c : UInt8) : Int := IntKind.u64.wrap (IntKind.u64.wrap ((BitVec.toNat (BitVec.ofInt (IntKind.bits .u64) h ^^^ BitVec.ofInt (IntKind.bits .u64) (IntKind.u64.wrap ((UInt8.toNat c : Nat) : Int))) : Nat) : Int) * (1099511628211 : Int))
end Go.Proofs.YtahlodpolggeiaaGreatDoor
set_option linter.unusedVariables false
set_option linter.unusedSimpArgs false
namespace Go.Proofs.YtahlodpolggeiaaGreatDoor
open Go Go.Lib Go.Proofs.YtahlodpolggeiaaGreatDoor.Eng
abbrev C0 : Cl := (ByteArray.empty, (ByteArray.empty, (ByteArray.empty, (ByteArray.empty, ((0 : Int), (([] : (List ByteArray)), ByteArray.empty))))))
theorem logLoop {l : List Cl} (hl : l.length ≤ 1000) (hs : ∀ c ∈ l, szC c) : ∀ (n k : Nat), l.length - k = n → ∃ r, trust_CheckLog.l0 l l (l.length : Int) (k : Int) = some r ∧ ((r = .inr () ∧ ∀ j : Nat, ∀ h : j < l.length, k ≤ j → trust_checkClaimed.f l[j] = some 0 ∧ l[j].2.2.2.2.2.2 ≠ bs_ ∧ ∀ h' : 0 < j, (l[j - 1]'(by omega)).2.2.2.2.1 ≤ l[j].2.2.2.2.1) ∨ ∃ f : Int, f ≠ 0 ∧ r = .inl f) := by
 intro n
 induction n with
 | zero =>
  intro k hk
  refine ⟨.inr (), loopX_done ?_, .inl ⟨rfl, fun j h1 h2 => by omega⟩⟩
  simp only [trust_CheckLog.s0, cb_dec]
  rw [if_neg (by omega)]
 | succ n ih =>
  intro k hk
  have hlt : k < l.length := by omega
  obtain ⟨r, h1, h2⟩ := ih (k + 1) (by omega)
  have e : ((k : Int) + 1) = ((k + 1 : Nat) : Int) := by omega
  obtain ⟨f, hf, hf0⟩ := checkC (hs _ (List.getElem_mem hlt))
  have step : trust_CheckLog.s0 l l (l.length : Int) (k : Int) = some (.inr (.inl f)) ∧ f ≠ 0 ∨ trust_CheckLog.s0 l l (l.length : Int) (k : Int) = some (.inr (.inl 3)) ∨ trust_CheckLog.s0 l l (l.length : Int) (k : Int) = some (.inr (.inl 8)) ∨ (trust_CheckLog.s0 l l (l.length : Int) (k : Int) = some (.inl ((k + 1 : Nat) : Int)) ∧ f = 0 ∧ l[k].2.2.2.2.2.2 ≠ bs_ ∧ ∀ h' : 0 < k, (l[k - 1]'(by omega)).2.2.2.2.1 ≤ l[k].2.2.2.2.1) := by
   simp only [trust_CheckLog.s0, cb_dec]
   rw [if_pos (by omega), ck_pos ⟨by omega, by omega⟩, rd_lt hlt, hf, ob_s]
   by_cases h0 : f = 0
   ·rw [decide_eq_true h0]
    simp only [Bool.not_true, cb_f]
    by_cases g : l[k].2.2.2.2.2.2 = bs_
    ·rw [if_pos g]; exact .inr (.inl rfl)
    ·rw [if_neg g]
     by_cases h3 : 0 < k
     ·have e2 : ((k : Int) - 1) = ((k - 1 : Nat) : Int) := by omega
      rw [if_pos (by omega), ck_in (by omega) (by omega), ck_pos ⟨by omega, by omega⟩, e2, rd_lt (show k - 1 < l.length by omega)]
      by_cases h4 : l[k].2.2.2.2.1 < (l[k - 1]'(by omega)).2.2.2.2.1
      ·rw [if_pos h4]; exact .inr (.inr (.inl rfl))
      ·rw [if_neg h4, ck_in (by omega) (by omega), e]
       exact .inr (.inr (.inr ⟨rfl, h0, g, fun _ => by omega⟩))
     ·rw [if_neg (by omega), ck_in (by omega) (by omega), e]
      exact .inr (.inr (.inr ⟨rfl, h0, g, fun h => absurd h h3⟩))
   ·rw [decide_eq_false h0]
    exact .inl ⟨rfl, h0⟩
  rcases step with ⟨hx, h0⟩ | hx | hx | ⟨hx, h0, hg, h4⟩
  ·exact ⟨.inl f, loopX_done hx, .inr ⟨f, h0, rfl⟩⟩
  ·exact ⟨.inl 3, loopX_done hx, .inr ⟨3, by decide, rfl⟩⟩
  ·exact ⟨.inl 8, loopX_done hx, .inr ⟨8, by decide, rfl⟩⟩
  ·refine ⟨r, (loopX_next hx).trans h1, ?_⟩
   rcases h2 with ⟨h2, h5⟩ | h2
   ·refine .inl ⟨h2, fun j hj hkj => ?_⟩
    rcases Nat.eq_or_lt_of_le hkj with rfl | h6
    ·exact ⟨by rw [hf, h0], hg, h4⟩
    ·exact h5 j hj h6
   ·exact .inr h2
structure OkL (l : List Cl) : Prop where
 len : l.length ≤ 1000
 ok : ∀ c ∈ l, trust_checkClaimed.f c = some 0 ∧ OkC c
 sign : ∀ c ∈ l, c.2.2.2.2.2.2 ≠ bs_
 rise : ∀ j : Nat, ∀ h : j < l.length, ∀ h' : 0 < j, (l[j - 1]'(by omega)).2.2.2.2.1 ≤ l[j].2.2.2.2.1
theorem checkLog {l : List Cl} (hs : ∀ c ∈ l, szC c) : ∃ f : Int, trust_CheckLog.f l = some f ∧ (f = 0 → OkL l) := by
 unfold trust_CheckLog.f
 simp only [cb_dec]
 by_cases h : 1000 < l.length
 ·rw [if_pos (by omega)]; exact ⟨2, rfl, fun h => by cases h⟩
 ·rw [if_neg (by omega)]
  obtain ⟨r, h1, h2⟩ := logLoop (l := l) (by omega) hs _ 0 rfl
  rw [show ((0 : Nat) : Int) = 0 from rfl] at h1
  rw [h1, ob_s]
  rcases h2 with ⟨rfl, h3⟩ | ⟨f, hf, rfl⟩
  ·refine ⟨0, rfl, fun _ => ⟨by omega, fun c hc => ?_, fun c hc => ?_, fun j hj hj0 => (h3 j hj (Nat.zero_le _)).2.2 hj0⟩⟩
   ·obtain ⟨j, hj, rfl⟩ := List.getElem_of_mem hc
    have h4 := (h3 j hj (Nat.zero_le _)).1
    obtain ⟨f, hf, hf0⟩ := checkC (hs _ hc)
    rw [h4] at hf
    exact ⟨h4, hf0 (Option.some.inj hf).symm⟩
   ·obtain ⟨j, hj, rfl⟩ := List.getElem_of_mem hc
    exact (h3 j hj (Nat.zero_le _)).2.1
  ·exact ⟨f, rfl, fun h => absurd h hf⟩
end Go.Proofs.YtahlodpolggeiaaGreatDoor
set_option linter.unusedVariables false
set_option linter.unusedSimpArgs false
namespace Go.Proofs.YtahlodpolggeiaaGreatDoor
open Go Go.Lib Go.Proofs.YtahlodpolggeiaaGreatDoor.Eng
inductive Both (l : List Wr) (c : Cl) : Prop
 | no (f : Int) (hf : f ≠ 0) (h : trust_checkBoth.f l c = some f)
 | none (h : trust_checkBoth.f l c = some 0) (hc : trust_checkClaimed.f c = some 0) (hk : OkC c) (hl : l.length ≤ 50) (hr : Rising (labs l)) (hn : ∀ k : Nat, ∀ h : k < l.length, l[k].1 ≠ c.2.2.2.1)
 | one (k : Nat) (hkl : k < l.length) (h : trust_checkBoth.f l c = some 0) (hc : trust_checkClaimed.f c = some 0) (hk : OkC c) (hl : l.length ≤ 50) (hr : Rising (labs l)) (he : l[k].1 = c.2.2.2.1)
section
variable {l : List Wr} {c : Cl} (hs : ∀ w ∈ l, szW w) (hn : ∀ w ∈ l, w.2.2.1.length ≤ 100000000000)
end
end Go.Proofs.YtahlodpolggeiaaGreatDoor
set_option linter.unusedVariables false
set_option linter.unusedSimpArgs false
namespace Go.Proofs.YtahlodpolggeiaaGreatDoor
open Go Go.Proofs.YtahlodpolggeiaaGreatDoor.Eng
end Go.Proofs.YtahlodpolggeiaaGreatDoor
set_option linter.unusedVariables false
set_option linter.unusedSimpArgs false
namespace Go.Proofs.YtahlodpolggeiaaGreatDoor
open Go Go.Lib Go.Proofs.YtahlodpolggeiaaGreatDoor.Eng
abbrev Au : Type := Int × (ByteArray × Int)
def hx (d : Nat) : UInt8 := bt hexCs (d : Int)
theorem b16 : ((UInt8.toNat (UInt8.ofInt (IntKind.u8.wrap (16 : Int))) : Nat) : Int) = 16 := by decide
end Go.Proofs.YtahlodpolggeiaaGreatDoor
set_option linter.unusedVariables false
set_option linter.unusedSimpArgs false
namespace Go.Proofs.YtahlodpolggeiaaGreatDoor
open Go Go.Lib Go.Proofs.YtahlodpolggeiaaGreatDoor.Eng
structure OkA (l : List Cl) (m : List Au) : Prop where
 log : OkL l
 len : m.length ≤ 1000
 num : ∀ a ∈ m, 0 ≤ a.1 ∧ a.1 < (l.length : Int)
theorem audLoop {l : List Cl} (hl : l.length ≤ 1000) {m : List Au} (hm : m.length ≤ 1000) : ∀ (n k : Nat), m.length - k = n → ∃ r, trust_CheckAudits.l0 l m m (m.length : Int) (k : Int) = some r ∧ ((r = .inr () ∧ ∀ j : Nat, ∀ h : j < m.length, k ≤ j → 0 ≤ m[j].1 ∧ m[j].1 < (l.length : Int)) ∨ ∃ f : Int, f ≠ 0 ∧ r = .inl f) := by
 intro n
 induction n with
 | zero =>
  intro k hk
  refine ⟨.inr (), loopX_done ?_, .inl ⟨rfl, fun j hj h => by omega⟩⟩
  simp only [trust_CheckAudits.s0, cb_dec]
  rw [if_neg (by omega)]
 | succ n ih =>
  intro k hk
  have hlt : k < m.length := by omega
  have e : ((k : Int) + 1) = ((k + 1 : Nat) : Int) := by omega
  obtain ⟨r, h1, h2⟩ := ih (k + 1) (by omega)
  have key : ∀ res, trust_CheckAudits.s0 l m m (m.length : Int) (k : Int) = some res → (∃ f : Int, f ≠ 0 ∧ res = .inr (.inl f)) ∨ (res = .inl ((k + 1 : Nat) : Int) ∧ 0 ≤ m[k].1 ∧ m[k].1 < (l.length : Int)) → ∃ r, trust_CheckAudits.l0 l m m (m.length : Int) (k : Int) = some r ∧ ((r = .inr () ∧ ∀ j : Nat, ∀ h : j < m.length, k ≤ j → 0 ≤ m[j].1 ∧ m[j].1 < (l.length : Int)) ∨ ∃ f : Int, f ≠ 0 ∧ r = .inl f) := by
   intro res hs hr
   rcases hr with ⟨f, h0, rfl⟩ | ⟨rfl, h3, h4⟩
   ·exact ⟨.inl f, loopX_done hs, .inr ⟨f, h0, rfl⟩⟩
   ·refine ⟨r, (loopX_next hs).trans h1, ?_⟩
    rcases h2 with ⟨h2, h5⟩ | h2
    ·refine .inl ⟨h2, fun j hj hkj => ?_⟩
     rcases Nat.eq_or_lt_of_le hkj with rfl | h6
     ·exact ⟨h3, h4⟩
     ·exact h5 j hj h6
    ·exact .inr h2
  have hs : ∃ res, trust_CheckAudits.s0 l m m (m.length : Int) (k : Int) = some res ∧ ((∃ f : Int, f ≠ 0 ∧ res = .inr (.inl f)) ∨ (res = .inl ((k + 1 : Nat) : Int) ∧ 0 ≤ m[k].1 ∧ m[k].1 < (l.length : Int))) := by
   unfold trust_CheckAudits.s0
   rw [decide_eq_true (by omega), cb_t, ck_pos ⟨by omega, by omega⟩, rd_lt hlt]
   simp only [within_eq, isDigest_eq, ob_s]
   rw [ck_in (by omega) (by omega)]
   by_cases hn : 0 ≤ m[k].1 ∧ m[k].1 ≤ (l.length : Int) - 1
   ·rw [decide_eq_true hn]
    simp only [Bool.not_true, cb_f]
    cases hd : digB m[k].2.1 with
    | false => exact ⟨_, rfl, .inl ⟨3, by decide, rfl⟩⟩
    | true =>
     simp only [Bool.not_true, cb_f]
     rw [ck_pos ⟨hn.1, by omega⟩]
     by_cases ha : (rd C0 l m[k].1).2.2.2.2.1 ≤ m[k].2.2 ∧ m[k].2.2 ≤ 1000000000
     ·rw [decide_eq_true ha]
      simp only [Bool.not_true, cb_f, cb_dec]
      by_cases h0 : 0 < k
      ·have e1 : (k : Int) - 1 = ((k - 1 : Nat) : Int) := by omega
       rw [if_pos (by omega), ck_in (by omega) (by omega), e1, ck_pos ⟨by omega, by omega⟩, ck_in (by omega) (by omega), e]
       split
       ·exact ⟨_, rfl, .inl ⟨8, by decide, rfl⟩⟩
       ·exact ⟨_, rfl, .inr ⟨rfl, hn.1, by omega⟩⟩
      ·rw [if_neg (by omega), ck_in (by omega) (by omega), e]
       exact ⟨_, rfl, .inr ⟨rfl, hn.1, by omega⟩⟩
     ·rw [decide_eq_false ha]
      exact ⟨_, rfl, .inl ⟨1, by decide, rfl⟩⟩
   ·rw [decide_eq_false hn]
    exact ⟨_, rfl, .inl ⟨9, by decide, rfl⟩⟩
  obtain ⟨res, hs, hr⟩ := hs
  exact key res hs hr
theorem checkAud {l : List Cl} (hs : ∀ c ∈ l, szC c) (m : List Au) : ∃ f : Int, trust_CheckAudits.f l m = some f ∧ (f = 0 → OkA l m) := by
 obtain ⟨f, h1, h2⟩ := checkLog hs
 unfold trust_CheckAudits.f
 rw [h1, ob_s]
 by_cases hf : f = 0
 ·rw [decide_eq_true hf]
  simp only [Bool.not_true, cb_f, cb_dec]
  have hk := h2 hf
  by_cases h : 1000 < m.length
  ·rw [if_pos (by omega)]; exact ⟨2, rfl, fun h => by cases h⟩
  ·rw [if_neg (by omega)]
   obtain ⟨r, h3, h4⟩ := audLoop hk.len (m := m) (by omega) _ 0 rfl
   rw [show ((0 : Nat) : Int) = 0 from rfl] at h3
   rw [h3, ob_s]
   rcases h4 with ⟨rfl, h5⟩ | ⟨f', hf', rfl⟩
   ·refine ⟨0, rfl, fun _ => ⟨hk, by omega, fun a ha => ?_⟩⟩
    obtain ⟨j, hj, rfl⟩ := List.getElem_of_mem ha
    exact h5 j hj (Nat.zero_le _)
   ·exact ⟨f', rfl, fun h => absurd h hf'⟩
 ·rw [decide_eq_false hf]
  exact ⟨f, rfl, fun h => absurd h hf⟩
noncomputable def same (l : List Cl) (x : Au) : Bool := decide (x.2.1 = (rd C0 l x.1).2.2.1)
abbrev Fc : Type := List Bool × (List Bool × List (ByteArray × Bool))
noncomputable def fcs (l : List Cl) : List Au → Fc → Fc
 | [], t => t
 | x :: r, t => fcs l r (t.1.set x.1.toNat true, (match same l x with | true => t.2.1 | false => t.2.1.set x.1.toNat true), (match same l x with | true => t.2.2 | false => mset (rd C0 l x.1).2.2.2.1 true t.2.2))
theorem fcLoop {l : List Cl} {m : List Au} (hm : m.length ≤ 1000) (hn : ∀ a ∈ m, 0 ≤ a.1 ∧ a.1 < (l.length : Int)) : ∀ (n k : Nat) (a w : List Bool) (s : List (ByteArray × Bool)), m.length - k = n → a.length = l.length → w.length = l.length → trust_factsOf.l0 l m (m.length : Int) (k : Int) [] [] [] a w s = some ([], [], [], fcs l (m.drop k) (a, w, s)) := by
 intro n
 induction n with
 | zero =>
  intro k a w s hk ha hw
  refine loopX_done ?_
  simp only [trust_factsOf.s0, cb_dec]
  rw [if_neg (by omega), List.drop_eq_nil_of_le (by omega)]
  rfl
 | succ n ih =>
  intro k a w s hk ha hw
  have hlt : k < m.length := by omega
  obtain ⟨h1, h2⟩ := hn _ (List.getElem_mem hlt)
  have e : ((k : Int) + 1) = ((k + 1 : Nat) : Int) := by omega
  rw [List.drop_eq_getElem_cons hlt]
  unfold fcs
  cases hq : same l m[k] with
  | true =>
   have hq' : m[k].2.1 = (rd C0 l m[k].1).2.2.1 := of_decide_eq_true hq
   refine (loopX_next (x' := (((k + 1 : Nat) : Int), [], [], [], a.set m[k].1.toNat true, w, s)) ?_).trans (ih (k + 1) _ _ _ (by omega) (by simp [ha]) hw)
   simp only [trust_factsOf.s0]
   rw [decide_eq_true (by omega), cb_t, ck_pos ⟨by omega, by omega⟩, rd_lt hlt]
   rw [ck_pos ⟨h1, by omega⟩, ck_pos (by omega), ck_pos ⟨h1, h2⟩, decide_eq_true hq']
   simp only [Bool.not_true, cb_f]
   rw [ck_in (by omega) (by omega), e]
  | false =>
   have hq' : ¬ m[k].2.1 = (rd C0 l m[k].1).2.2.1 := of_decide_eq_false hq
   refine (loopX_next (x' := (((k + 1 : Nat) : Int), [], [], [], a.set m[k].1.toNat true, w.set m[k].1.toNat true, mset (rd C0 l m[k].1).2.2.2.1 true s)) ?_).trans (ih (k + 1) _ _ _ (by omega) (by simp [ha]) (by simp [hw]))
   simp only [trust_factsOf.s0]
   rw [decide_eq_true (by omega), cb_t, ck_pos ⟨by omega, by omega⟩, rd_lt hlt]
   rw [ck_pos ⟨h1, by omega⟩, ck_pos (by omega), ck_pos ⟨h1, h2⟩, decide_eq_false hq']
   simp only [Bool.not_false, cb_t]
   rw [ck_pos ⟨h1, by omega⟩, ck_pos (by omega), ck_pos ⟨h1, h2⟩, ck_in (by omega) (by omega), e]
theorem facts_eq {l : List Cl} {m : List Au} (hA : OkA l m) : trust_factsOf.f l m = some (fcs l m (List.replicate l.length false, List.replicate l.length false, [])) := by
 have hl := hA.log.len
 have hck : ∀ a : Option Fc, ck (0 ≤ ((List.length l : Nat) : Int) ∧ ((List.length l : Nat) : Int) * (1 : Int) ≤ 140737488355328) a = a := fun a => ck_pos ⟨by omega, by omega⟩
 have h := fcLoop (l := l) hA.len hA.num _ 0 (List.replicate l.length false) (List.replicate l.length false) [] rfl (by simp) (by simp)
 rw [show ((0 : Nat) : Int) = 0 from rfl, List.drop_zero] at h
 unfold trust_factsOf.f
 simp only [mix_eq, hck, Int.toNat_natCast, h, ob_s, both_same]
theorem fcs_len (l : List Cl) : ∀ (m : List Au) (t : Fc), (fcs l m t).1.length = t.1.length ∧ (fcs l m t).2.1.length = t.2.1.length
 | [], t => ⟨rfl, rfl⟩
 | x :: r, t => by
  unfold fcs
  have h := fcs_len l r (t.1.set x.1.toNat true, (match same l x with | true => t.2.1 | false => t.2.1.set x.1.toNat true), (match same l x with | true => t.2.2 | false => mset (rd C0 l x.1).2.2.2.1 true t.2.2))
  refine ⟨h.1.trans (by simp), h.2.trans ?_⟩
  cases same l x <;> simp
def nums (k : Nat) : List Bool → List Int
 | [] => []
 | b :: r => match b with | true => (k : Int) :: nums (k + 1) r | false => nums (k + 1) r
theorem nums_len : ∀ (l : List Bool) (k : Nat), (nums k l).length ≤ l.length
 | [], _ => Nat.le_refl _
 | b :: r, k => by
  have := nums_len r (k + 1)
  cases b <;> simp [nums] <;> omega
theorem numLoop {l : List Bool} (hl : l.length ≤ 1000) : ∀ (n k : Nat) (out : List Int), l.length - k = n → out.length ≤ k → trust_numbers.l0 l (l.length : Int) (k : Int) out = some (out ++ nums k (l.drop k)) := by
 intro n
 induction n with
 | zero =>
  intro k out hk ho
  refine loopX_done ?_
  simp only [trust_numbers.s0, cb_dec]
  rw [if_neg (by omega), List.drop_eq_nil_of_le (by omega)]
  simp [nums]
 | succ n ih =>
  intro k out hk ho
  have hlt : k < l.length := by omega
  have e : ((k : Int) + 1) = ((k + 1 : Nat) : Int) := by omega
  rw [List.drop_eq_getElem_cons hlt]
  cases hb : l[k] with
  | true =>
   have h1 := ih (k + 1) (out ++ [(k : Int)]) (by omega) (by simp; omega)
   refine (loopX_next (x' := (((k + 1 : Nat) : Int), out ++ [(k : Int)])) ?_).trans (h1.trans (by simp [nums]))
   simp only [trust_numbers.s0]
   rw [decide_eq_true (by omega), cb_t, ck_pos ⟨by omega, by omega⟩, rd_lt hlt, hb, cb_t, ck_pos (by simp; omega), ck_in (by omega) (by omega), e]
  | false =>
   have h1 := ih (k + 1) out (by omega) (by omega)
   refine (loopX_next (x' := (((k + 1 : Nat) : Int), out)) ?_).trans (h1.trans (by simp [nums]))
   simp only [trust_numbers.s0]
   rw [decide_eq_true (by omega), cb_t, ck_pos ⟨by omega, by omega⟩, rd_lt hlt, hb, cb_f, ck_in (by omega) (by omega), e]
theorem numbers_eq {l : List Bool} (hl : l.length ≤ 1000) : trust_numbers.f l = some (nums 0 l) := by
 have h := numLoop hl _ 0 [] rfl (by simp)
 rw [show ((0 : Nat) : Int) = 0 from rfl] at h
 unfold trust_numbers.f
 simp only [h, ob_s, List.drop_zero, List.nil_append]
end Go.Proofs.YtahlodpolggeiaaGreatDoor
set_option linter.unusedVariables false
set_option linter.unusedSimpArgs false
namespace Go.Proofs.YtahlodpolggeiaaGreatDoor
open Go Go.Lib Go.Proofs.YtahlodpolggeiaaGreatDoor.Eng
theorem fcs_cons (l : List Cl) (x : Au) (r : List Au) (t : Fc) : fcs l (x :: r) t = fcs l r (t.1.set x.1.toNat true, (match same l x with | true => t.2.1 | false => t.2.1.set x.1.toNat true), (match same l x with | true => t.2.2 | false => mset (rd C0 l x.1).2.2.2.1 true t.2.2)) := rfl
def wrs : List Cl → List Bool → List ByteArray
 | c :: r, b :: q => match b with | true => c.2.2.2.1 :: wrs r q | false => wrs r q
 | _, _ => []
theorem wrs_len : ∀ (l : List Cl) (w : List Bool), (wrs l w).length ≤ l.length
 | [], _ => by simp [wrs]
 | c :: r, [] => by simp [wrs]
 | c :: r, b :: q => by
  have := wrs_len r q
  cases b <;> simp [wrs] <;> omega
theorem run47 {xs : List ByteArray} (h : xs.length ≤ 1000000000) : srt_47_1000000_run xs = some (sortB xs) := ck_pos h
theorem run48 {xs : List ByteArray} (h : xs.length ≤ 1000000000) : srt_48_1000000_run xs = some (compB xs ++ List.replicate (xs.length - (compB xs).length) (ByteArray.empty)) := ck_pos h
theorem sortB_len (xs : List ByteArray) : (sortB xs).length = xs.length := by simp [sortB]
end Go.Proofs.YtahlodpolggeiaaGreatDoor
set_option linter.unusedVariables false
namespace Go.Proofs.YtahlodpolggeiaaGreatDoor
open Go Go.Lib Go.Proofs.YtahlodpolggeiaaGreatDoor.Eng
theorem mem_compactUpTo {α : Type} [Inhabited α] [DecidableEq α] (d : Array α) (x : α) : ∀ m : Nat, x ∈ Lib.compactUpTo d m ↔ ∃ j, j < m ∧ d[j]! = x
 | 0 => by simp [Lib.compactUpTo]
 | m + 1 => by
  rw [Lib.compactUpTo_succ, List.mem_append, mem_compactUpTo d x m]
  cases hk : Lib.keeps d m with
  | true =>
   simp only [if_true, List.mem_singleton]
   constructor
   ·rintro (⟨j, h1, h2⟩ | h)
    ·exact ⟨j, by omega, h2⟩
    ·exact ⟨m, by omega, h.symm⟩
   ·rintro ⟨j, h1, h2⟩
    rcases Nat.lt_or_ge j m with h | h
    ·exact .inl ⟨j, h, h2⟩
    ·obtain rfl : j = m := by omega
     exact .inr h2.symm
  | false =>
   simp only [Bool.false_eq_true, if_false, List.not_mem_nil, or_false]
   have hk' := of_decide_eq_false (show decide (m = 0 ∨ d[m]! ≠ d[m - 1]!) = false from hk)
   have h0 : m ≠ 0 := fun e => hk' (.inl e)
   have h1 : d[m]! = d[m - 1]! := Classical.byContradiction fun e => hk' (.inr e)
   constructor
   ·rintro ⟨j, h2, h3⟩; exact ⟨j, by omega, h3⟩
   ·rintro ⟨j, h2, h3⟩
    rcases Nat.lt_or_ge j m with h | h
    ·exact ⟨j, h, h3⟩
    ·obtain rfl : j = m := by omega
     exact ⟨j - 1, by omega, by rw [← h1]; exact h3⟩
theorem mem_compact {α : Type} [Inhabited α] [DecidableEq α] (l : List α) (x : α) : x ∈ Lib.compact l ↔ x ∈ l := by
 unfold Lib.compact
 rw [mem_compactUpTo]
 constructor
 ·rintro ⟨j, h1, h2⟩
  rw [← h2, getElem!_pos _ j (by simpa using h1)]
  simp
 ·intro h
  obtain ⟨j, h1, h2⟩ := List.getElem_of_mem h
  exact ⟨j, h1, by rw [getElem!_pos _ j (by simpa using h1)]; simpa using h2⟩
theorem mem_susp (xs : List ByteArray) (x : ByteArray) : x ∈ compB (sortB xs) ↔ x ∈ xs := by
 have e : (sortB xs).map toL = (xs.map toL).mergeSort fun x y => decide (x ≤ y) := by
  unfold sortB
  rw [List.map_map]
  exact (List.map_congr_left fun l _ => toL_ofL l).trans (List.map_id _)
 unfold compB
 rw [List.mem_map]
 constructor
 ·rintro ⟨l, h1, rfl⟩
  rw [mem_compact, e, List.mem_mergeSort, List.mem_map] at h1
  obtain ⟨b, hb, rfl⟩ := h1
  rw [ofL_toL]; exact hb
 ·intro h
  exact ⟨toL x, by rw [mem_compact, e, List.mem_mergeSort]; exact List.mem_map_of_mem h, ofL_toL x⟩
theorem mgetA_set {α : Type} (x y : ByteArray) (v : α) : ∀ es : List (ByteArray × α), mgetA x (msetA y v es) = if x = y then some v else mgetA x es
 | [] => by
  unfold msetA mgetA
  by_cases h : x = y
  ·rw [if_pos h, decide_eq_true h]
  ·rw [if_neg h, decide_eq_false h]; rfl
 | p :: r => by
  have ih := mgetA_set x y v r
  unfold msetA
  by_cases hp : y = p.1
  ·rw [decide_eq_true hp]
   show mgetA x ((y, v) :: r) = _
   by_cases h : x = y
   ·rw [if_pos h]; unfold mgetA; rw [decide_eq_true h]
   ·rw [if_neg h]
    have h2 : ¬ x = p.1 := fun e => h (e.trans hp.symm)
    unfold mgetA
    rw [decide_eq_false h, decide_eq_false h2]
  ·rw [decide_eq_false hp]
   cases klt y p.1 with
   | true =>
    show mgetA x ((y, v) :: p :: r) = _
    by_cases h : x = y
    ·rw [if_pos h]; unfold mgetA; rw [decide_eq_true h]
    ·rw [if_neg h]
     show mgetA x ((y, v) :: p :: r) = mgetA x (p :: r)
     conv => lhs; unfold mgetA
     rw [decide_eq_false h]
   | false =>
    show mgetA x (p :: msetA y v r) = _
    by_cases h2 : x = p.1
    ·have h : ¬ x = y := fun e => hp (e.symm.trans h2)
     rw [if_neg h]
     unfold mgetA
     rw [decide_eq_true h2]
    ·have e1 : mgetA x (p :: msetA y v r) = mgetA x (msetA y v r) := by
      conv => lhs; unfold mgetA
      rw [decide_eq_false h2]
     have e2 : mgetA x (p :: r) = mgetA x r := by
      conv => lhs; unfold mgetA
      rw [decide_eq_false h2]
     rw [e1, e2, ih]
end Go.Proofs.YtahlodpolggeiaaGreatDoor
set_option linter.unusedVariables false
set_option linter.unusedSimpArgs false
namespace Go.Proofs.YtahlodpolggeiaaGreatDoor
open Go Go.Lib Go.Proofs.YtahlodpolggeiaaGreatDoor.Eng
theorem mem_wrs (x : ByteArray) : ∀ (l : List Cl) (w : List Bool), x ∈ wrs l w ↔ ∃ i, ∃ h : i < l.length, w[i]? = some true ∧ l[i].2.2.2.1 = x
 | [], w => by simp [wrs]
 | c :: r, [] => by simp [wrs]
 | c :: r, b :: q => by
  have ih := mem_wrs x r q
  have shift : (∃ i, ∃ h : i < (c :: r).length, (b :: q)[i]? = some true ∧ (c :: r)[i].2.2.2.1 = x) ↔ (b = true ∧ c.2.2.2.1 = x) ∨ ∃ i, ∃ h : i < r.length, q[i]? = some true ∧ r[i].2.2.2.1 = x := by
   constructor
   ·rintro ⟨i, h, h1, h2⟩
    cases i with
    | zero => exact .inl ⟨by simpa using h1, h2⟩
    | succ i => exact .inr ⟨i, by simpa using h, by simpa using h1, by simpa using h2⟩
   ·rintro (⟨h1, h2⟩ | ⟨i, h, h1, h2⟩)
    ·exact ⟨0, by simp, by simp [h1], h2⟩
    ·exact ⟨i + 1, by simpa using h, by simpa using h1, by simpa using h2⟩
  rw [shift]
  cases b with
  | true =>
   show x ∈ c.2.2.2.1 :: wrs r q ↔ _
   rw [List.mem_cons, ih]
   constructor
   ·rintro (h | h)
    ·exact .inl ⟨rfl, h.symm⟩
    ·exact .inr h
   ·rintro (⟨_, h⟩ | h)
    ·exact .inl h.symm
    ·exact .inr h
  | false =>
   show x ∈ wrs r q ↔ _
   rw [ih]
   constructor
   ·exact .inr
   ·rintro (⟨h, _⟩ | h)
    ·cases h
    ·exact h
def SusW (l : List Cl) (t : Fc) : Prop := ∀ x, Option.getD (mget x t.2.2) false = true ↔ ∃ i, ∃ h : i < l.length, t.2.1[i]? = some true ∧ l[i].2.2.2.1 = x
theorem fcs_sus {l : List Cl} : ∀ (m : List Au) (t : Fc), (∀ a ∈ m, 0 ≤ a.1 ∧ a.1 < (l.length : Int)) → t.2.1.length = l.length → SusW l t → SusW l (fcs l m t)
 | [], t, _, _, h => h
 | a :: r, t, hn, ht, h => by
  rw [fcs_cons]
  obtain ⟨h1, h2⟩ := hn a (List.mem_cons_self ..)
  refine fcs_sus r _ (fun b hb => hn b (List.mem_cons_of_mem _ hb)) ?_ ?_
  ·cases same l a <;> simp [ht]
  ·cases hs : same l a with
   | true => exact h
   | false =>
    intro x
    have hlt : a.1.toNat < l.length := by omega
    have e : rd C0 l a.1 = l[a.1.toNat] := by simp [rd, List.getD, List.getElem?_eq_getElem hlt]
    show Option.getD (mgetA x (msetA (rd C0 l a.1).2.2.2.1 true t.2.2)) false = true ↔ _
    rw [mgetA_set, e]
    have hx := h x
    by_cases hw : x = l[a.1.toNat].2.2.2.1
    ·rw [if_pos hw]
     refine ⟨fun _ => ⟨a.1.toNat, hlt, ?_, hw.symm⟩, fun _ => rfl⟩
     show (t.2.1.set a.1.toNat true)[a.1.toNat]? = _
     rw [List.getElem?_set_self (by omega)]
    ·rw [if_neg hw]
     refine hx.trans ⟨?_, ?_⟩
     ·rintro ⟨i, hi, h3, h4⟩
      refine ⟨i, hi, ?_, h4⟩
      show (t.2.1.set a.1.toNat true)[i]? = _
      rw [List.getElem?_set]
      split
      ·rw [if_pos (by omega)]
      ·exact h3
     ·rintro ⟨i, hi, h3, h4⟩
      have h3 : (t.2.1.set a.1.toNat true)[i]? = some true := h3
      have hne : ¬ a.1.toNat = i := fun e' => by subst e'; exact hw h4.symm
      rw [List.getElem?_set_ne hne] at h3
      exact ⟨i, hi, h3, h4⟩
end Go.Proofs.YtahlodpolggeiaaGreatDoor
set_option linter.unusedVariables false
set_option linter.unusedSimpArgs false
namespace Go.Proofs.YtahlodpolggeiaaGreatDoor
open Go Go.Lib Go.Proofs.YtahlodpolggeiaaGreatDoor.Eng
theorem compB_len (xs : List ByteArray) : (compB xs).length ≤ xs.length := by
 have hle : (Lib.compact (xs.map toL)).length ≤ xs.length := by
  unfold Lib.compact Lib.compactUpTo
  rw [List.length_map]
  exact Nat.le_trans (List.length_filter_le _ _) (by simp)
 unfold compB
 rw [List.length_map]
 exact hle
end Go.Proofs.YtahlodpolggeiaaGreatDoor
set_option linter.unusedVariables false
set_option linter.unusedSimpArgs false
namespace Go.Proofs.YtahlodpolggeiaaGreatDoor
open Go Go.Lib Go.Proofs.YtahlodpolggeiaaGreatDoor.Eng
theorem mup_ext {α : Type} {a b : List (ByteArray × α)} (ha : MUp a) (hb : MUp b) (h : ∀ k, mgetA k a = mgetA k b) : a = b := by
 have na : a.Nodup := List.Pairwise.imp (fun {p q} hpq e => by subst e; rw [klt_irr] at hpq; cases hpq) ha
 have nb : b.Nodup := List.Pairwise.imp (fun {p q} hpq e => by subst e; rw [klt_irr] at hpq; cases hpq) hb
 have hp : List.Perm a b := (List.perm_ext_iff_of_nodup na nb).2 fun p => by
  have h1 := mgetA_mem (k := p.1) ha.nodup p.2
  have h2 := mgetA_mem (k := p.1) hb.nodup p.2
  rw [h p.1] at h1
  exact (h1.symm.trans h2)
 exact List.Perm.eq_of_pairwise (fun p q _ _ h1 h2 => by
  have := klt_trans h1 h2
  rw [klt_irr] at this; cases this) ha hb hp
theorem mset_up {α : Type} {k : ByteArray} {v : α} {es : List (ByteArray × α)} (h : MUp es) : MUp (mset k v es) := msetA_up h
theorem mget_set {α : Type} (x y : ByteArray) (v : α) (es : List (ByteArray × α)) : mget x (mset y v es) = if x = y then some v else mget x es := mgetA_set x y v es
def allAt {α β : Type} (v : β) (l : List (ByteArray × α)) (acc : List (ByteArray × β)) : List (ByteArray × β) := l.foldl (fun a p => mset p.1 v a) acc
theorem allAt_up {α β : Type} {v : β} : ∀ (l : List (ByteArray × α)) {acc : List (ByteArray × β)}, MUp acc → MUp (allAt v l acc)
 | [], _, h => h
 | p :: r, _, h => allAt_up r (mset_up h)
open Classical in
theorem allAt_get {α β : Type} {v : β} (x : ByteArray) : ∀ (l : List (ByteArray × α)) (acc : List (ByteArray × β)), mget x (allAt v l acc) = if (x ∈ l.map fun p => p.1) then some v else mget x acc
 | [], acc => by rw [if_neg (by simp)]; rfl
 | p :: r, acc => by
  show mget x (allAt v r (mset p.1 v acc)) = _
  rw [allAt_get x r, mget_set]
  by_cases h1 : x ∈ r.map (·.1)
  ·rw [if_pos h1, if_pos (by simp only [List.map_cons, List.mem_cons]; exact .inr h1)]
  ·rw [if_neg h1]
   by_cases h2 : x = p.1
   ·rw [if_pos h2, if_pos (by simp only [List.map_cons, List.mem_cons]; exact .inl h2)]
   ·rw [if_neg h2, if_neg (by simp only [List.map_cons, List.mem_cons, not_or]; exact ⟨h2, h1⟩)]
open Classical in
theorem allAt_perm {α β : Type} {v : β} {l l' : List (ByteArray × α)} (hp : List.Perm l l') : allAt v l [] = allAt v l' [] := by
 refine mup_ext (allAt_up l List.Pairwise.nil) (allAt_up l' List.Pairwise.nil) fun k => ?_
 show mget k _ = mget k _
 rw [allAt_get, allAt_get]
 have : k ∈ l.map (·.1) ↔ k ∈ l'.map (·.1) := (hp.map _).mem_iff
 by_cases h : k ∈ l'.map (·.1)
 ·rw [if_pos (this.2 h), if_pos h]
 ·rw [if_neg (fun h2 => h (this.1 h2)), if_neg h]
abbrev MB : Type := List (ByteArray × Bool)
abbrev MI : Type := List (ByteArray × Int)
theorem rightInit (S : MB) : trust_facts_right.l0 S [] [] = some (allAt (-1 : Int) S [], []) := by
 have go : ∀ (l : MB) (acc : MI) (e : MB), runOrd (fun (x : MI × MB) e => trust_facts_right.s0 x.1 x.2 e) l (acc, e) = some (allAt (-1 : Int) l acc, e) := by
  intro l
  induction l with
  | nil => intro acc e; rfl
  | cons p r ih =>
   intro acc e
   rw [runOrd_cons]
   exact ih (mset p.1 (-1) acc) e
 refine loopM_of fun l hp => ?_
 rw [go l [] [], allAt_perm hp]
def rightL (S : MB) : Nat → List Cl → List Bool → List Bool → MI → MB → MI
 | k, c :: r, a :: A, w :: W, R, E => match w with
  | true => rightL S (k + 1) r A W R (mset c.2.2.2.1 true E)
  | false => (match a && (Option.getD (mget c.2.2.2.1 S) false && !Option.getD (mget c.2.2.2.1 E) false) with
   | true => rightL S (k + 1) r A W (mset c.2.2.2.1 (k : Int) R) E
   | false => rightL S (k + 1) r A W R E)
 | _, _, _, _, R, _ => R
theorem rightLoop {l : List Cl} (hl : l.length ≤ 1000) {A W : List Bool} (hA : A.length = l.length) (hW : W.length = l.length) (S : MB) : ∀ (n k : Nat) (R : MI) (E : MB), l.length - k = n →
  ∃ E', trust_facts_right.l1 (A, (W, S)) l (l.length : Int) (k : Int) R E = some (rightL S k (l.drop k) (A.drop k) (W.drop k) R E, E') := by
 intro n
 induction n with
 | zero =>
  intro k R E hk
  refine ⟨E, loopX_done ?_⟩
  simp only [trust_facts_right.s1, cb_dec]
  rw [if_neg (by omega), List.drop_eq_nil_of_le (by omega)]
  rfl
 | succ n ih =>
  intro k R E hk
  have hlt : k < l.length := by omega
  have hltA : k < A.length := by omega
  have hltW : k < W.length := by omega
  have e : ((k : Int) + 1) = ((k + 1 : Nat) : Int) := by omega
  have gA : rd false A (k : Int) = A[k] := by simp [rd, List.getD, List.getElem?_eq_getElem hltA]
  have gW : rd false W (k : Int) = W[k] := by simp [rd, List.getD, List.getElem?_eq_getElem hltW]
  have c1 : ∀ {β : Type} (x : Option β), ck (0 ≤ (k : Int) ∧ (k : Int) < ((List.length W : Nat) : Int)) x = x := fun x => ck_pos ⟨by omega, by omega⟩
  have c2 : ∀ {β : Type} (x : Option β), ck (0 ≤ (k : Int) ∧ (k : Int) < ((List.length A : Nat) : Int)) x = x := fun x => ck_pos ⟨by omega, by omega⟩
  have c3 : ∀ {β : Type} (x : Option β), ck (InR (((k + 1 : Nat) : Int))) x = x := fun x => ck_in (by omega) (by omega)
  rw [List.drop_eq_getElem_cons hlt, List.drop_eq_getElem_cons hltA, List.drop_eq_getElem_cons hltW]
  have step : trust_facts_right.s1 (A, (W, S)) l (l.length : Int) (k : Int) R E = some (.inl (((k + 1 : Nat) : Int), (match W[k] with
    | true => (R, mset l[k].2.2.2.1 true E)
    | false => (match A[k] && (Option.getD (mget l[k].2.2.2.1 S) false && !Option.getD (mget l[k].2.2.2.1 E) false) with
     | true => (mset l[k].2.2.2.1 (k : Int) R, E)
     | false => (R, E))))) := by
   simp only [trust_facts_right.s1]
   rw [decide_eq_true (by omega), cb_t, ck_pos ⟨by omega, by omega⟩]
   simp only [rd_lt hlt, c1, gW, c2, gA, e, c3]
   cases W[k] with
   | true => rfl
   | false =>
    cases A[k] with
    | false => rfl
    | true =>
     cases Option.getD (mget l[k].2.2.2.1 S) false with
     | false => rfl
     | true =>
      cases Option.getD (mget l[k].2.2.2.1 E) false <;> rfl
  unfold rightL
  cases hw : W[k] with
  | true =>
   rw [hw] at step
   obtain ⟨E', h⟩ := ih (k + 1) R (mset l[k].2.2.2.1 true E) (by omega)
   exact ⟨E', (loopX_next step).trans h⟩
  | false =>
   rw [hw] at step
   cases hb : (A[k] && (Option.getD (mget l[k].2.2.2.1 S) false && !Option.getD (mget l[k].2.2.2.1 E) false)) with
   | true =>
    rw [hb] at step
    obtain ⟨E', h⟩ := ih (k + 1) (mset l[k].2.2.2.1 (k : Int) R) E (by omega)
    exact ⟨E', (loopX_next step).trans h⟩
   | false =>
    rw [hb] at step
    obtain ⟨E', h⟩ := ih (k + 1) R E (by omega)
    exact ⟨E', (loopX_next step).trans h⟩
theorem right_eq {l : List Cl} (hl : l.length ≤ 1000) {A W : List Bool} (hA : A.length = l.length) (hW : W.length = l.length) (S : MB) : trust_facts_right.f (A, (W, S)) l = some (rightL S 0 l A W (allAt (-1 : Int) S []) []) := by
 obtain ⟨E', h⟩ := rightLoop hl hA hW S _ 0 (allAt (-1 : Int) S []) [] rfl
 rw [show ((0 : Nat) : Int) = 0 from rfl, List.drop_zero, List.drop_zero, List.drop_zero] at h
 unfold trust_facts_right.f
 simp only [rightInit, ob_s, h]
def usesB (us : List ByteArray) (bad good : MB) : Bool := us.any fun u => Option.getD (mget u bad) false && !Option.getD (mget u good) false
theorem usLoopB {us : List ByteArray} (hu : us.length ≤ 1000) (bad good : MB) : ∀ (n k : Nat), us.length - k = n →
  ∃ r, slices_IndexFunc_string_string_f140.l0 us (bad, good) (us.length : Int) (k : Int) = some r ∧ ((r = .inr () ∧ usesB (us.drop k) bad good = false) ∨ ∃ j : Nat, r = .inl (j : Int) ∧ usesB (us.drop k) bad good = true) := by
 intro n
 induction n with
 | zero =>
  intro k hk
  refine ⟨.inr (), loopX_done ?_, .inl ⟨rfl, ?_⟩⟩
  ·simp only [slices_IndexFunc_string_string_f140.s0, cb_dec]
   rw [if_neg (by omega)]
  ·rw [List.drop_eq_nil_of_le (by omega)]; rfl
 | succ n ih =>
  intro k hk
  have hlt : k < us.length := by omega
  have e : ((k : Int) + 1) = ((k + 1 : Nat) : Int) := by omega
  obtain ⟨r, h1, h2⟩ := ih (k + 1) (by omega)
  rw [List.drop_eq_getElem_cons hlt]
  have e1 : trust_tainted_1.f us[k] bad good = some (Option.getD (mget us[k] bad) false && !Option.getD (mget us[k] good) false) := by
   unfold trust_tainted_1.f
   cases Option.getD (mget us[k] bad) false <;> rfl
  have e2 : usesB (us[k] :: us.drop (k + 1)) bad good = ((Option.getD (mget us[k] bad) false && !Option.getD (mget us[k] good) false) || usesB (us.drop (k + 1)) bad good) := rfl
  rw [e2]
  cases hb : (Option.getD (mget us[k] bad) false && !Option.getD (mget us[k] good) false) with
  | true =>
   refine ⟨.inl (k : Int), loopX_done ?_, .inr ⟨k, rfl, rfl⟩⟩
   simp only [slices_IndexFunc_string_string_f140.s0]
   rw [decide_eq_true (by omega), cb_t, ck_pos ⟨by omega, by omega⟩, rd_lt hlt]
   simp only [e1, hb, ob_s, cb_t]
  | false =>
   refine ⟨r, (loopX_next ?_).trans h1, ?_⟩
   ·simp only [slices_IndexFunc_string_string_f140.s0]
    rw [decide_eq_true (by omega), cb_t, ck_pos ⟨by omega, by omega⟩, rd_lt hlt]
    simp only [e1, hb, ob_s, cb_f]
    rw [ck_in (by omega) (by omega), e]
   ·simpa using h2
theorem uses_eq {us : List ByteArray} (hu : us.length ≤ 1000) (bad good : MB) : slices_ContainsFunc_string_string_f140.f us (bad, good) = some (usesB us bad good) := by
 obtain ⟨r, h1, h2⟩ := usLoopB hu bad good _ 0 rfl
 rw [show ((0 : Nat) : Int) = 0 from rfl] at h1
 rw [List.drop_zero] at h2
 unfold slices_ContainsFunc_string_string_f140.f slices_IndexFunc_string_string_f140.f
 simp only [h1, ob_s]
 rcases h2 with ⟨rfl, h3⟩ | ⟨j, rfl, h3⟩
 ·rw [h3]; rfl
 ·rw [h3]
  show some (decide ((0 : Int) ≤ (j : Int))) = _
  rw [decide_eq_true (by omega)]
def taintB (R : MI) (k : Nat) (c : Cl) (a w : Bool) (bad good : MB) : Bool :=
 w || ((Option.isSome (mget c.2.2.2.1 R) && (!a && decide (Option.getD (mget c.2.2.2.1 R) 0 < (k : Int)))) || usesB c.2.2.2.2.2.1 bad good)
def taintL (R : MI) : Nat → List Cl → List Bool → List Bool → MB → MB → List Bool
 | k, c :: r, a :: A, w :: W, bad, good => taintB R k c a w bad good :: (match taintB R k c a w bad good with
  | true => taintL R (k + 1) r A W (mset c.2.2.1 true bad) good
  | false => taintL R (k + 1) r A W bad (mset c.2.2.1 true good))
 | _, _, _, _, _, _ => []
theorem taintL_cons (R : MI) (k : Nat) (c : Cl) (r : List Cl) (a w : Bool) (A W : List Bool) (bad good : MB) : taintL R k (c :: r) (a :: A) (w :: W) bad good = taintB R k c a w bad good :: (match taintB R k c a w bad good with
  | true => taintL R (k + 1) r A W (mset c.2.2.1 true bad) good
  | false => taintL R (k + 1) r A W bad (mset c.2.2.1 true good)) := rfl
theorem taintLoop {l : List Cl} (hl : l.length ≤ 1000) (hu : ∀ c ∈ l, c.2.2.2.2.2.1.length ≤ 1000) {A W : List Bool} (hA : A.length = l.length) (hW : W.length = l.length) (S : MB) (R : MI) : ∀ (n k : Nat) (o : List Bool) (bad good : MB), l.length - k = n → k ≤ l.length → o.length = l.length →
  ∃ b' g', trust_tainted.l0 (A, (W, S)) R l (l.length : Int) (k : Int) o bad good = some (o.take k ++ taintL R k (l.drop k) (A.drop k) (W.drop k) bad good, b', g') := by
 intro n
 induction n with
 | zero =>
  intro k o bad good hk hkl ho
  refine ⟨bad, good, loopX_done ?_⟩
  simp only [trust_tainted.s0, cb_dec]
  rw [if_neg (by omega), List.drop_eq_nil_of_le (by omega), List.take_of_length_le (by omega)]
  simp [taintL]
 | succ n ih =>
  intro k o bad good hk hkl ho
  have hlt : k < l.length := by omega
  have hltA : k < A.length := by omega
  have hltW : k < W.length := by omega
  have e : ((k : Int) + 1) = ((k + 1 : Nat) : Int) := by omega
  have gA : rd false A (k : Int) = A[k] := by simp [rd, List.getD, List.getElem?_eq_getElem hltA]
  have gW : rd false W (k : Int) = W[k] := by simp [rd, List.getD, List.getElem?_eq_getElem hltW]
  have c1 : ∀ {β : Type} (x : Option β), ck (0 ≤ (k : Int) ∧ (k : Int) < ((List.length W : Nat) : Int)) x = x := fun x => ck_pos ⟨by omega, by omega⟩
  have c2 : ∀ {β : Type} (x : Option β), ck (0 ≤ (k : Int) ∧ (k : Int) < ((List.length A : Nat) : Int)) x = x := fun x => ck_pos ⟨by omega, by omega⟩
  have c3 : ∀ {β : Type} (x : Option β), ck (InR (((k + 1 : Nat) : Int))) x = x := fun x => ck_in (by omega) (by omega)
  have c4 : ∀ {β : Type} (x : Option β), ck (0 ≤ (k : Int) ∧ (k : Int) < ((List.length o : Nat) : Int)) x = x := fun x => ck_pos ⟨by omega, by omega⟩
  have c5 : ∀ {β : Type} (x : Option β), ck (k < List.length o) x = x := fun x => ck_pos (by omega)
  have c6 : ∀ (v : Bool) {β : Type} (x : Option β), ck (0 ≤ (k : Int) ∧ (k : Int) < ((List.length (List.set o k v) : Nat) : Int)) x = x := fun v _ x => ck_pos ⟨by omega, by rw [List.length_set]; omega⟩
  have c7 : ∀ (v : Bool) {β : Type} (x : Option β), ck (k < List.length (List.set o k v)) x = x := fun v _ x => ck_pos (by rw [List.length_set]; omega)
  have gS : ∀ v : Bool, List.getD (List.set o k v) k false = v := fun v => by simp [List.getD, List.getElem?_set_self (show k < o.length by omega)]
  have hU := uses_eq (hu _ (List.getElem_mem hlt)) bad good
  rw [List.drop_eq_getElem_cons hlt, List.drop_eq_getElem_cons hltA, List.drop_eq_getElem_cons hltW]
  have step : trust_tainted.s0 (A, (W, S)) R l (l.length : Int) (k : Int) o bad good = some (.inl (((k + 1 : Nat) : Int), o.set k (taintB R k l[k] A[k] W[k] bad good), (match taintB R k l[k] A[k] W[k] bad good with
    | true => (mset l[k].2.2.1 true bad, good)
    | false => (bad, mset l[k].2.2.1 true good)))) := by
   simp only [trust_tainted.s0]
   rw [decide_eq_true (by omega), cb_t, ck_pos ⟨by omega, by omega⟩]
   simp only [rd_lt hlt, c1, gW, c2, gA, e, c3, c4, Int.toNat_natCast, c5, c6, c7, gS, hU, ob_s]
   unfold taintB
   cases W[k] with
   | true => rfl
   | false =>
    cases Option.isSome (mget l[k].2.2.2.1 R) with
    | false =>
     cases usesB l[k].2.2.2.2.2.1 bad good <;> rfl
    | true =>
     cases A[k] with
     | true => cases usesB l[k].2.2.2.2.2.1 bad good <;> rfl
     | false =>
      cases decide (Option.getD (mget l[k].2.2.2.1 R) 0 < (k : Int)) with
      | true => rfl
      | false => cases usesB l[k].2.2.2.2.2.1 bad good <;> rfl
  have ht : (o.set k (taintB R k l[k] A[k] W[k] bad good)).take (k + 1) = o.take k ++ [taintB R k l[k] A[k] W[k] bad good] := by
   rw [List.take_add_one, List.take_set_of_le (Nat.le_refl k), List.getElem?_set_self (by omega)]
   rfl
  cases hb : taintB R k l[k] A[k] W[k] bad good with
  | true =>
   rw [hb] at step ht
   obtain ⟨b', g', h⟩ := ih (k + 1) (o.set k true) (mset l[k].2.2.1 true bad) good (by omega) (by omega) (by simp [ho])
   refine ⟨b', g', (loopX_next step).trans (h.trans ?_)⟩
   rw [ht, taintL_cons, hb]
   simp
  | false =>
   rw [hb] at step ht
   obtain ⟨b', g', h⟩ := ih (k + 1) (o.set k false) bad (mset l[k].2.2.1 true good) (by omega) (by omega) (by simp [ho])
   refine ⟨b', g', (loopX_next step).trans (h.trans ?_)⟩
   rw [ht, taintL_cons, hb]
   simp
end Go.Proofs.YtahlodpolggeiaaGreatDoor
set_option linter.unusedVariables false
set_option linter.unusedSimpArgs false
namespace Go.Proofs.YtahlodpolggeiaaGreatDoor
open Go Go.Lib Go.Proofs.YtahlodpolggeiaaGreatDoor.Eng
theorem getD_arr {d : List (List UInt8)} {j : Nat} (h : j < d.length) : d.toArray[j]! = d[j] := by
 rw [getElem!_pos _ j (by simpa using h)]; simp
theorem compact_sorted {d : List (List UInt8)} (hd : d.Pairwise (fun x y => x ≤ y)) : ∀ m : Nat, m ≤ d.length → (Lib.compactUpTo d.toArray m).Pairwise (fun x y => x < y) ∧ ∀ j, m = j + 1 → ∀ x ∈ Lib.compactUpTo d.toArray m, x ≤ d.toArray[j]!
 | 0, _ => ⟨by simp [Lib.compactUpTo], fun j h => by cases h⟩
 | m + 1, hm => by
  obtain ⟨h1, h2⟩ := compact_sorted hd m (by omega)
  rw [Lib.compactUpTo_succ]
  have hself : ∀ x : List UInt8, x ≤ x := fun x => List.le_refl x
  cases hk : Lib.keeps d.toArray m with
  | true =>
   rw [if_pos rfl]
   have hk' : m = 0 ∨ d.toArray[m]! ≠ d.toArray[m - 1]! := of_decide_eq_true hk
   refine ⟨List.pairwise_append.2 ⟨h1, List.pairwise_singleton _ _, fun x hx y hy => ?_⟩, fun j hj x hx => ?_⟩
   ·have hy' : y = d.toArray[m]! := by simpa using hy
    rw [hy']
    cases m with
    | zero => simp [Lib.compactUpTo] at hx
    | succ m =>
     have h3 := h2 m rfl x hx
     have h4 : d.toArray[m + 1]! ≠ d.toArray[m]! := by
      rcases hk' with h | h
      ·omega
      ·exact h
     have h5 : d.toArray[m]! ≤ d.toArray[m + 1]! := by
      rw [getD_arr (by omega), getD_arr (by omega)]
      exact List.pairwise_iff_getElem.1 hd m (m + 1) (by omega) (by omega) (by omega)
     have h6 : x ≤ d.toArray[m + 1]! := List.le_trans h3 h5
     refine Classical.byContradiction fun hn => h4 ?_
     exact List.le_antisymm (List.le_trans (List.not_lt.1 hn) h3) h5
   ·have hjm : j = m := by omega
    subst hjm
    rcases List.mem_append.1 hx with hx | hx
    ·cases j with
     | zero => simp [Lib.compactUpTo] at hx
     | succ m =>
      have h5 : d.toArray[m]! ≤ d.toArray[m + 1]! := by
       rw [getD_arr (by omega), getD_arr (by omega)]
       exact List.pairwise_iff_getElem.1 hd m (m + 1) (by omega) (by omega) (by omega)
      exact List.le_trans (h2 m rfl x hx) h5
    ·have : x = d.toArray[j]! := by simpa using hx
     rw [this]; exact hself _
  | false =>
   rw [if_neg (by simp), List.append_nil]
   have hk' : ¬ (m = 0 ∨ d.toArray[m]! ≠ d.toArray[m - 1]!) := of_decide_eq_false hk
   refine ⟨h1, fun j hj x hx => ?_⟩
   have hjm : j = m := by omega
   subst hjm
   cases j with
   | zero => exact absurd (.inl rfl) hk'
   | succ m =>
    have h4 : d.toArray[m + 1]! = d.toArray[m]! := Classical.byContradiction fun h => hk' (.inr h)
    rw [h4]
    exact h2 m rfl x hx
theorem susp_sorted (xs : List ByteArray) : (compB (sortB xs)).Pairwise fun x y => klt x y = true := by
 have e : (sortB xs).map toL = (xs.map toL).mergeSort fun x y => decide (x ≤ y) := by
  unfold sortB
  rw [List.map_map]
  exact (List.map_congr_left fun l _ => toL_ofL l).trans (List.map_id _)
 have hs : ((xs.map toL).mergeSort fun x y => decide (x ≤ y)).Pairwise (fun x y => x ≤ y) := by
  have := List.pairwise_mergeSort (le := fun x y : List UInt8 => decide (x ≤ y)) (fun a b c h1 h2 => decide_eq_true (List.le_trans (of_decide_eq_true h1) (of_decide_eq_true h2))) (fun a b => by
   rcases List.le_total a b with h | h
   ·simp [h]
   ·simp [h]) (xs.map toL)
  exact this.imp fun {a b} h => of_decide_eq_true h
 unfold compB
 rw [List.pairwise_map, e]
 have h1 := (compact_sorted hs _ (Nat.le_refl _)).1
 refine List.Pairwise.imp (fun {a b} hab => ?_) h1
 unfold klt
 refine decide_eq_true ?_
 show toL (ofL a) < toL (ofL b)
 rw [toL_ofL, toL_ofL]; exact hab
theorem keys_susp {S : MB} (hS : MUp S) {xs : List ByteArray} (h : ∀ x, x ∈ S.map (fun p => p.1) ↔ x ∈ xs) : S.map (fun p => p.1) = compB (sortB xs) := by
 have h1 : (S.map (fun p => p.1)).Pairwise fun x y => klt x y = true := by rw [List.pairwise_map]; exact hS
 have h2 := susp_sorted xs
 have nd : ∀ {l : List ByteArray}, l.Pairwise (fun x y => klt x y = true) → l.Nodup := fun h => h.imp fun {p q} hpq e => by subst e; rw [klt_irr] at hpq; cases hpq
 refine List.Perm.eq_of_pairwise (fun p q _ _ h1 h2 => ?_) h1 h2 ((List.perm_ext_iff_of_nodup (nd h1) (nd h2)).2 fun x => (h x).trans (mem_susp xs x).symm)
 have := klt_trans h1 h2
 rw [klt_irr] at this; cases this
theorem msetA_len {α : Type} (k : ByteArray) (v : α) : ∀ es : List (ByteArray × α), (msetA k v es).length ≤ es.length + 1
 | [] => by simp [msetA]
 | p :: r => by
  have := msetA_len k v r
  unfold msetA
  split <;> simp <;> omega
structure SGood (S : MB) : Prop where
 up : MUp S
 yes : ∀ p ∈ S, p.2 = true
theorem fcs_good {l : List Cl} : ∀ (m : List Au) (t : Fc), SGood t.2.2 → SGood (fcs l m t).2.2 ∧ (fcs l m t).2.2.length ≤ t.2.2.length + m.length
 | [], t, h => ⟨h, Nat.le_refl _⟩
 | a :: r, t, h => by
  rw [fcs_cons]
  cases hs : same l a with
  | true =>
   obtain ⟨h1, h2⟩ := fcs_good r (t.1.set a.1.toNat true, t.2.1, t.2.2) h
   refine ⟨h1, Nat.le_trans h2 ?_⟩
   simp
  | false =>
   obtain ⟨h1, h2⟩ := fcs_good (l := l) r (t.1.set a.1.toNat true, t.2.1.set a.1.toNat true, mset (rd C0 l a.1).2.2.2.1 true t.2.2) ⟨mset_up h.up, fun p hp => by
    rcases msetA_mem hp with rfl | hp
    ·rfl
    ·exact h.yes p hp⟩
   refine ⟨h1, Nat.le_trans h2 ?_⟩
   have := msetA_len (rd C0 l a.1).2.2.2.1 true t.2.2
   simp only [List.length_cons]
   show (mset _ _ _).length + _ ≤ _
   unfold mset
   omega
theorem SGood.mem {S : MB} (h : SGood S) (x : ByteArray) : x ∈ S.map (fun p => p.1) ↔ Option.getD (mget x S) false = true := by
 constructor
 ·intro hx
  obtain ⟨p, hp, rfl⟩ := List.mem_map.1 hx
  have h1 := (mgetA_mem (k := p.1) h.up.nodup p.2).2 hp
  show Option.getD (mgetA p.1 S) false = true
  rw [h1, h.yes p hp]; rfl
 ·intro hx
  cases hg : mgetA x S with
  | none =>
   have hx : Option.getD (mgetA x S) false = true := hx
   rw [hg] at hx; cases hx
  | some v => exact List.mem_map.2 ⟨(x, v), (mgetA_mem h.up.nodup v).1 hg, rfl⟩
theorem taintL_len (R : MI) : ∀ (l : List Cl) (k : Nat) (A W : List Bool) (bad good : MB), A.length = l.length → W.length = l.length → (taintL R k l A W bad good).length = l.length
 | [], k, A, W, _, _, _, _ => by simp [taintL]
 | c :: r, k, [], W, _, _, h, _ => by simp at h
 | c :: r, k, a :: A, [], _, _, _, h => by simp at h
 | c :: r, k, a :: A, w :: W, bad, good, h1, h2 => by
  rw [taintL_cons]
  have e1 : A.length = r.length := by simpa using h1
  have e2 : W.length = r.length := by simpa using h2
  cases taintB R k c a w bad good with
  | true => simp only [List.length_cons, taintL_len R r (k + 1) A W _ _ e1 e2]
  | false => simp only [List.length_cons, taintL_len R r (k + 1) A W _ _ e1 e2]
theorem taintL_wrong (R : MI) : ∀ (l : List Cl) (k : Nat) (A W : List Bool) (bad good : MB) (i : Nat), A.length = l.length → W.length = l.length → W[i]? = some true → (taintL R k l A W bad good)[i]? = some true
 | [], k, A, W, _, _, i, _, h2, h => by
  have : W = [] := List.eq_nil_of_length_eq_zero h2
  subst this
  simp at h
 | c :: r, k, [], W, _, _, _, h, _, _ => by simp at h
 | c :: r, k, a :: A, [], _, _, _, _, h, _ => by simp at h
 | c :: r, k, a :: A, w :: W, bad, good, i, h1, h2, h => by
  rw [taintL_cons]
  have e1 : A.length = r.length := by simpa using h1
  have e2 : W.length = r.length := by simpa using h2
  cases i with
  | zero =>
   have hw : w = true := by simpa using h
   have hb : taintB R k c a w bad good = true := by unfold taintB; rw [hw]; rfl
   rw [hb]; rfl
  | succ i =>
   have h' : W[i]? = some true := by simpa using h
   cases taintB R k c a w bad good with
   | true => exact taintL_wrong R r (k + 1) A W _ _ i e1 e2 h'
   | false => exact taintL_wrong R r (k + 1) A W _ _ i e1 e2 h'
theorem usesB_nil (us : List ByteArray) (good : MB) : usesB us [] good = false := by
 unfold usesB
 rw [List.any_eq_false]
 intro u _
 show ¬ ((Option.getD (mgetA u ([] : MB)) false && _) = true)
 simp [mgetA]
theorem taintL_clean : ∀ (l : List Cl) (k : Nat) (A W : List Bool) (good : MB), (∀ w ∈ W, w = false) → ∀ x ∈ taintL [] k l A W [] good, x = false
 | [], k, A, W, _, _, x, hx => by simp [taintL] at hx
 | c :: r, k, [], W, _, _, x, hx => by simp [taintL] at hx
 | c :: r, k, a :: A, [], _, _, x, hx => by simp [taintL] at hx
 | c :: r, k, a :: A, w :: W, good, hW, x, hx => by
  have hw : w = false := hW w (List.mem_cons_self ..)
  have hb : taintB [] k c a w [] good = false := by
   unfold taintB
   rw [hw, usesB_nil]
   rfl
  rw [taintL_cons, hb] at hx
  rcases List.mem_cons.1 hx with rfl | hx
  ·rfl
  ·exact taintL_clean r (k + 1) A W _ (fun w hw => hW w (List.mem_cons_of_mem _ hw)) x hx
theorem rightL_nil : ∀ (l : List Cl) (k : Nat) (A W : List Bool) (E : MB), rightL [] k l A W [] E = []
 | [], k, A, W, E => by simp [rightL]
 | c :: r, k, [], W, E => by simp [rightL]
 | c :: r, k, a :: A, [], E => by simp [rightL]
 | c :: r, k, a :: A, w :: W, E => by
  unfold rightL
  cases w with
  | true => exact rightL_nil r (k + 1) A W _
  | false =>
   have e : (a && (Option.getD (mget c.2.2.2.1 ([] : MB)) false && !Option.getD (mget c.2.2.2.1 E) false)) = false := by
    have : mget c.2.2.2.1 ([] : MB) = none := rfl
    rw [this]; cases a <;> rfl
   rw [e]
   exact rightL_nil r (k + 1) A W _
theorem mem_nums : ∀ (L : List Bool) (k : Nat) (x : Int), x ∈ nums k L ↔ ∃ j : Nat, x = ((k + j : Nat) : Int) ∧ L[j]? = some true
 | [], k, x => by simp [nums]
 | b :: r, k, x => by
  have ih := mem_nums r (k + 1) x
  have shift : (∃ j : Nat, x = ((k + j : Nat) : Int) ∧ (b :: r)[j]? = some true) ↔ (x = (k : Int) ∧ b = true) ∨ ∃ j : Nat, x = ((k + 1 + j : Nat) : Int) ∧ r[j]? = some true := by
   constructor
   ·rintro ⟨j, h1, h2⟩
    cases j with
    | zero => exact .inl ⟨by simpa using h1, by simpa using h2⟩
    | succ j => exact .inr ⟨j, by omega, by simpa using h2⟩
   ·rintro (⟨h1, h2⟩ | ⟨j, h1, h2⟩)
    ·exact ⟨0, by simpa using h1, by simp [h2]⟩
    ·exact ⟨j + 1, by omega, by simpa using h2⟩
  rw [shift]
  cases b with
  | true =>
   show x ∈ (k : Int) :: nums (k + 1) r ↔ _
   rw [List.mem_cons, ih]
   simp
  | false =>
   show x ∈ nums (k + 1) r ↔ _
   rw [ih]
   simp
theorem nums_wrs {l : List Cl} : ∀ (n k : Nat) (W : List Bool), l.length - k = n → (nums k W).map (fun i => (rd C0 l i).2.2.2.1) = wrs (l.drop k) W ∨ l.length < k + W.length
 | 0, k, W, hn => by
  cases W with
  | nil => left; simp [nums]; cases l.drop k <;> simp [wrs]
  | cons w r => right; simp; omega
 | n + 1, k, W, hn => by
  have hlt : k < l.length := by omega
  cases W with
  | nil => left; simp [nums]; cases l.drop k <;> simp [wrs]
  | cons w r =>
   rcases nums_wrs (l := l) n (k + 1) r (by omega) with h | h
   ·left
    rw [List.drop_eq_getElem_cons hlt]
    cases w with
    | true =>
     show (rd C0 l (k : Int)).2.2.2.1 :: _ = l[k].2.2.2.1 :: wrs (l.drop (k + 1)) r
     rw [rd_lt hlt, h]
    | false => exact h
   ·right; simp; omega
theorem containsILoop {X : List Int} (hX : X.length ≤ 1000000000) (x : Int) : ∀ (n k : Nat), X.length - k = n → ∃ r, slices_Index_int_int.l0 X x (X.length : Int) (k : Int) = some r ∧ ((r = .inr () ∧ x ∉ X.drop k) ∨ ∃ j : Nat, r = .inl (j : Int) ∧ x ∈ X.drop k) := by
 intro n
 induction n with
 | zero =>
  intro k hk
  refine ⟨.inr (), loopX_done ?_, .inl ⟨rfl, ?_⟩⟩
  ·simp only [slices_Index_int_int.s0, cb_dec]
   rw [if_neg (by omega)]
  ·rw [List.drop_eq_nil_of_le (by omega)]; simp
 | succ n ih =>
  intro k hk
  have hlt : k < X.length := by omega
  have e : ((k : Int) + 1) = ((k + 1 : Nat) : Int) := by omega
  obtain ⟨r, h1, h2⟩ := ih (k + 1) (by omega)
  rw [List.drop_eq_getElem_cons hlt]
  by_cases hx : x = X[k]
  ·refine ⟨.inl (k : Int), loopX_done ?_, .inr ⟨k, rfl, by rw [← hx]; exact List.mem_cons_self ..⟩⟩
   simp only [slices_Index_int_int.s0]
   rw [decide_eq_true (by omega), cb_t, ck_pos ⟨by omega, by omega⟩, rd_lt hlt, decide_eq_true hx]
   rfl
  ·refine ⟨r, (loopX_next ?_).trans h1, ?_⟩
   ·simp only [slices_Index_int_int.s0]
    rw [decide_eq_true (by omega), cb_t, ck_pos ⟨by omega, by omega⟩, rd_lt hlt, decide_eq_false hx]
    simp only [cb_f]
    rw [ck_in (by omega) (by omega), e]
   ·rcases h2 with ⟨h2, h3⟩ | ⟨j, h2, h3⟩
    ·exact .inl ⟨h2, by rw [List.mem_cons, not_or]; exact ⟨hx, h3⟩⟩
    ·exact .inr ⟨j, h2, List.mem_cons_of_mem _ h3⟩
theorem containsI_t {X : List Int} (hX : X.length ≤ 1000000000) {x : Int} (h : x ∈ X) : slices_Contains_int_int.f X x = some true := by
 obtain ⟨r, h1, h2⟩ := containsILoop hX x _ 0 rfl
 rw [show ((0 : Nat) : Int) = 0 from rfl] at h1
 unfold slices_Contains_int_int.f slices_Index_int_int.f
 simp only [h1, ob_s]
 rcases h2 with ⟨rfl, h3⟩ | ⟨j, rfl, h3⟩
 ·rw [List.drop_zero] at h3; exact absurd h h3
 ·show some (decide ((0 : Int) ≤ (j : Int))) = _
  rw [decide_eq_true (by omega)]
end Go.Proofs.YtahlodpolggeiaaGreatDoor
set_option linter.unusedVariables false
set_option linter.unusedSimpArgs false
namespace Go.Proofs.YtahlodpolggeiaaGreatDoor
open Go Go.Lib Go.Proofs.YtahlodpolggeiaaGreatDoor.Eng
noncomputable def fcs0 (l : List Cl) (m : List Au) : Fc := fcs l m (List.replicate l.length false, List.replicate l.length false, [])
noncomputable def rightR (l : List Cl) (m : List Au) : MI := rightL (fcs0 l m).2.2 0 l (fcs0 l m).1 (fcs0 l m).2.1 (allAt (-1 : Int) (fcs0 l m).2.2 []) []
noncomputable def taintT (l : List Cl) (m : List Au) : List Bool := taintL (rightR l m) 0 l (fcs0 l m).1 (fcs0 l m).2.1 [] []
theorem fcs0_len (l : List Cl) (m : List Au) : (fcs0 l m).1.length = l.length ∧ (fcs0 l m).2.1.length = l.length := by
 have h := fcs_len l m (List.replicate l.length false, List.replicate l.length false, [])
 unfold fcs0
 exact ⟨by rw [h.1]; simp, by rw [h.2]; simp⟩
theorem OkA.few {l : List Cl} {m : List Au} (hA : OkA l m) : ∀ c ∈ l, c.2.2.2.2.2.1.length ≤ 1000 := fun c hc => Nat.le_trans (hA.log.ok c hc).2.many (by decide)
theorem tainted_eq {l : List Cl} {m : List Au} (hA : OkA l m) : trust_tainted.f l m = some (taintT l m) := by
 have hl := hA.log.len
 obtain ⟨h1, h2⟩ := fcs0_len l m
 obtain ⟨b', g', h3⟩ := taintLoop hl hA.few h1 h2 (fcs0 l m).2.2 (rightR l m) _ 0 (List.replicate l.length false) [] [] rfl (Nat.zero_le _) (by simp)
 rw [show ((0 : Nat) : Int) = 0 from rfl, List.drop_zero, List.drop_zero, List.drop_zero, List.take_zero, List.nil_append] at h3
 have h4 := right_eq hl h1 h2 (fcs0 l m).2.2
 have hf : trust_factsOf.f l m = some ((fcs0 l m).1, ((fcs0 l m).2.1, (fcs0 l m).2.2)) := facts_eq hA
 have hck : ∀ {β : Type} (a : Option β), ck (0 ≤ ((List.length l : Nat) : Int) ∧ ((List.length l : Nat) : Int) * (1 : Int) ≤ 140737488355328) a = a := fun a => ck_pos ⟨by omega, by omega⟩
 unfold trust_tainted.f
 simp only [hf, ob_s, h4, hck, Int.toNat_natCast]
 show ob (trust_tainted.l0 _ (rightR l m) l (l.length : Int) 0 (List.replicate l.length false) [] []) _ = _
 rw [h3]
 rfl
theorem sgood (l : List Cl) (m : List Au) : SGood (fcs0 l m).2.2 ∧ (fcs0 l m).2.2.length ≤ m.length := by
 have h := fcs_good (l := l) m (List.replicate l.length false, List.replicate l.length false, []) ⟨List.Pairwise.nil, fun p hp => by cases hp⟩
 refine ⟨h.1, Nat.le_trans h.2 ?_⟩
 simp
theorem susW {l : List Cl} {m : List Au} (hA : OkA l m) : SusW l (fcs0 l m) := fcs_sus m _ hA.num (by simp) (fun x => by
 constructor
 ·intro h; cases h
 ·rintro ⟨i, hi, h1, _⟩
  have h1 : (List.replicate l.length false)[i]? = some true := h1
  rw [List.getElem?_replicate] at h1
  split at h1 <;> cases h1)
theorem keys_fit {l : List Cl} {m : List Au} (hA : OkA l m) : KeysFit (fcs0 l m).2.2 := by
 obtain ⟨h1, h2⟩ := sgood l m
 have hm := hA.len
 refine ⟨by omega, fun p hp => ?_⟩
 have h3 := (h1.mem p.1).1 (List.mem_map_of_mem hp)
 obtain ⟨i, hi, _, h4⟩ := (susW hA p.1).1 h3
 rw [← h4]
 have := wordB_size (hA.log.ok _ (List.getElem_mem hi)).2.writer
 exact Nat.le_trans this (by decide)
theorem suspected_eq {l : List Cl} {m : List Au} (hA : OkA l m) : (fcs0 l m).2.2.map (fun p => p.1) = compB (sortB (wrs l (fcs0 l m).2.1)) := by
 obtain ⟨h1, _⟩ := sgood l m
 refine keys_susp h1.up fun x => ?_
 rw [h1.mem, mem_wrs]
 exact susW hA x
theorem Suspected_eq {l : List Cl} {m : List Au} (hA : OkA l m) (h0 : trust_CheckAudits.f l m = some 0) : trust_Suspected.f l m = some (compB (sortB (wrs l (fcs0 l m).2.1)), 0) := by
 have hf : trust_factsOf.f l m = some ((fcs0 l m).1, ((fcs0 l m).2.1, (fcs0 l m).2.2)) := facts_eq hA
 unfold trust_Suspected.f
 simp only [h0, ob_s, decide_true, Bool.not_true, cb_f, hf]
 have e1 : maps_Keys_map_string_bool_string_bool.f (fcs0 l m).2.2 = some (fcs0 l m).2.2 := rfl
 have e2 : slices_Sorted_string_f144.f (fcs0 l m).2.2 = some ((fcs0 l m).2.2.map (fun p => p.1)) := ck_pos (keys_fit hA)
 rw [e1, ob_s, e2, ob_s, suspected_eq hA]
theorem Tainted_eq {l : List Cl} {m : List Au} (hA : OkA l m) (h0 : trust_CheckAudits.f l m = some 0) : trust_Tainted.f l m = some (nums 0 (taintT l m), 0) := by
 obtain ⟨h1, h2⟩ := fcs0_len l m
 have hT : (taintT l m).length = l.length := taintL_len _ _ _ _ _ _ _ h1 h2
 have hl := hA.log.len
 unfold trust_Tainted.f
 simp only [h0, ob_s, decide_true, Bool.not_true, cb_f, tainted_eq hA, numbers_eq (show (taintT l m).length ≤ 1000 by omega)]
theorem Wrong_eq {l : List Cl} {m : List Au} (hA : OkA l m) (h0 : trust_CheckAudits.f l m = some 0) : trust_Wrong.f l m = some (nums 0 (fcs0 l m).2.1, 0) := by
 obtain ⟨h1, h2⟩ := fcs0_len l m
 have hl := hA.log.len
 have hf : trust_factsOf.f l m = some ((fcs0 l m).1, ((fcs0 l m).2.1, (fcs0 l m).2.2)) := facts_eq hA
 unfold trust_Wrong.f
 simp only [h0, ob_s, decide_true, Bool.not_true, cb_f, hf, numbers_eq (show (fcs0 l m).2.1.length ≤ 1000 by omega)]
theorem namesLoop {l : List Cl} (hl : l.length ≤ 1000) {X T : List Int} (hT : T.length ≤ 1000000000) (hX : X.length ≤ 1000) (hin : ∀ x ∈ X, x ∈ T ∧ 0 ≤ x ∧ x < (l.length : Int)) : ∀ (n k : Nat) (o : List ByteArray), X.length - k = n → o.length ≤ k →
  law11_TrustWrongIsTainted.l0 l T X (X.length : Int) (k : Int) o = some (.inr (o ++ (X.drop k).map fun i => (rd C0 l i).2.2.2.1)) := by
 intro n
 induction n with
 | zero =>
  intro k o hk ho
  refine loopX_done ?_
  simp only [law11_TrustWrongIsTainted.s0, cb_dec]
  rw [if_neg (by omega), List.drop_eq_nil_of_le (by omega)]
  simp
 | succ n ih =>
  intro k o hk ho
  have hlt : k < X.length := by omega
  have e : ((k : Int) + 1) = ((k + 1 : Nat) : Int) := by omega
  obtain ⟨h1, h2, h3⟩ := hin _ (List.getElem_mem hlt)
  rw [List.drop_eq_getElem_cons hlt]
  refine (loopX_next (x' := (((k + 1 : Nat) : Int), o ++ [(rd C0 l X[k]).2.2.2.1])) ?_).trans ((ih (k + 1) _ (by omega) (by simp; omega)).trans (by rw [List.append_assoc]; rfl))
  simp only [law11_TrustWrongIsTainted.s0]
  rw [decide_eq_true (by omega), cb_t, ck_pos ⟨by omega, by omega⟩]
  simp only [rd_lt hlt, containsI_t hT h1, ob_s, Bool.not_true, cb_f]
  rw [decide_eq_false (by omega), cb_f, decide_eq_false (by omega), cb_f, ck_pos ⟨h2, h3⟩, ck_pos (by simp; omega), ck_in (by omega) (by omega), e]
theorem law_WT {l : List Cl} (hs : ∀ c ∈ l, szC c) (m : List Au) : law11_TrustWrongIsTainted.f l m = some true := by
 obtain ⟨f, h1, h2⟩ := checkAud hs m
 by_cases hf : f = 0
 ·subst hf
  have hA := h2 rfl
  have hl := hA.log.len
  obtain ⟨n1, n2⟩ := fcs0_len l m
  have hT : (taintT l m).length = l.length := taintL_len _ _ _ _ _ _ _ n1 n2
  have hW1 : (nums 0 (fcs0 l m).2.1).length ≤ 1000 := Nat.le_trans (nums_len _ 0) (by omega)
  have hT1 : (nums 0 (taintT l m)).length ≤ 1000 := Nat.le_trans (nums_len _ 0) (by omega)
  have hin : ∀ x ∈ nums 0 (fcs0 l m).2.1, x ∈ nums 0 (taintT l m) ∧ 0 ≤ x ∧ x < (l.length : Int) := fun x hx => by
   obtain ⟨j, hj, h3⟩ := (mem_nums _ _ _).1 hx
   have hjl := (List.getElem?_eq_some_iff.1 h3).1
   exact ⟨(mem_nums _ _ _).2 ⟨j, hj, taintL_wrong _ _ _ _ _ _ _ j n1 n2 h3⟩, by omega, by omega⟩
  have hloop := namesLoop hl (T := nums 0 (taintT l m)) (X := nums 0 (fcs0 l m).2.1) (by omega) hW1 hin _ 0 [] rfl (by simp)
  rw [show ((0 : Nat) : Int) = 0 from rfl, List.drop_zero, List.nil_append] at hloop
  have hwrs : (nums 0 (fcs0 l m).2.1).map (fun i => (rd C0 l i).2.2.2.1) = wrs l (fcs0 l m).2.1 := by
   rcases nums_wrs (l := l) l.length 0 (fcs0 l m).2.1 (by omega) with h | h
   ·rw [List.drop_zero] at h; exact h
   ·omega
  rw [hwrs] at hloop
  have hXl : (wrs l (fcs0 l m).2.1).length ≤ 1000000000 := by have := wrs_len l (fcs0 l m).2.1; omega
  have r1 := run47 hXl
  have r2 := run48 (xs := sortB (wrs l (fcs0 l m).2.1)) (by rw [sortB_len]; exact hXl)
  have r3 : List.take (List.length (compB (sortB (wrs l (fcs0 l m).2.1)))) (compB (sortB (wrs l (fcs0 l m).2.1)) ++ List.replicate ((sortB (wrs l (fcs0 l m).2.1)).length - (compB (sortB (wrs l (fcs0 l m).2.1))).length) ByteArray.empty) = compB (sortB (wrs l (fcs0 l m).2.1)) := List.take_left' rfl
  have hcl : (compB (sortB (wrs l (fcs0 l m).2.1))).length ≤ 1000000000000 := by
   have := compB_len (sortB (wrs l (fcs0 l m).2.1))
   rw [sortB_len] at this
   omega
  have hs1 : ∀ {β γ : Type} (x : γ) (a : Option β), ck (Option.isSome (some x) = true) a = a := fun x a => ck_pos rfl
  have hclean : (nums 0 (fcs0 l m).2.1).length = 0 → (nums 0 (taintT l m)).length = 0 := fun h0 => by
   have hW0 : ∀ w ∈ (fcs0 l m).2.1, w = false := fun w hw => by
    obtain ⟨j, hj, rfl⟩ := List.getElem_of_mem hw
    cases hb : (fcs0 l m).2.1[j] with
    | false => rfl
    | true =>
     have : ((0 + j : Nat) : Int) ∈ nums 0 (fcs0 l m).2.1 := (mem_nums _ _ _).2 ⟨j, rfl, by rw [List.getElem?_eq_getElem hj, hb]⟩
     rw [List.eq_nil_of_length_eq_zero h0] at this
     cases this
   have hS0 : (fcs0 l m).2.2 = [] := by
    cases hS : (fcs0 l m).2.2 with
    | nil => rfl
    | cons p r =>
     have h3 := ((sgood l m).1.mem p.1).1 (by rw [hS]; simp)
     obtain ⟨i, hi, h4, _⟩ := (susW hA p.1).1 h3
     have := hW0 true (List.mem_of_getElem? h4)
     cases this
   have hR : rightR l m = [] := by
    unfold rightR
    rw [hS0]
    exact rightL_nil _ _ _ _ _
   have hall : ∀ x ∈ taintT l m, x = false := by
    unfold taintT
    rw [hR]
    exact taintL_clean _ _ _ _ _ hW0
   cases hN : nums 0 (taintT l m) with
   | nil => rfl
   | cons x r =>
    obtain ⟨j, _, h4⟩ := (mem_nums _ _ _).1 (show x ∈ nums 0 (taintT l m) by rw [hN]; exact List.mem_cons_self ..)
    have := hall true (List.mem_of_getElem? h4)
    cases this
  unfold law11_TrustWrongIsTainted.f
  simp only [Wrong_eq hA h1, Tainted_eq hA h1, Suspected_eq hA h1, ob_s, decide_true, Bool.not_true, cb_f, hloop, caseS_r, r1, hs1, Option.getD_some, r2, r3, equalS hcl, cb_t, awake11]
  by_cases hw : 0 < (nums 0 (fcs0 l m).2.1).length
  ·rw [decide_eq_true (by omega)]; rfl
  ·rw [decide_eq_false (by omega), cb_f, decide_eq_true (by have := hclean (by omega); omega)]; rfl
 ·have e1 : trust_Wrong.f l m = some ([], f) := by unfold trust_Wrong.f; simp only [h1, ob_s, decide_eq_false hf]; rfl
  have e2 : trust_Tainted.f l m = some ([], f) := by unfold trust_Tainted.f; simp only [h1, ob_s, decide_eq_false hf]; rfl
  have e3 : trust_Suspected.f l m = some ([], f) := by unfold trust_Suspected.f; simp only [h1, ob_s, decide_eq_false hf]; rfl
  unfold law11_TrustWrongIsTainted.f
  simp only [e1, e2, e3, ob_s, decide_eq_false hf, decide_true, Bool.not_false, cb_t, awake11]
theorem law_WT' (x : List Cl × List Au) (hx : InA T 6 [22,56] [.slice (.pair .str (.pair .str (.pair .str (.pair .str (.pair (.int .i64) (.pair (.slice .str) .str)))))), .slice (.pair (.int .i64) (.pair .str (.int .i64)))] x) : law11_TrustWrongIsTainted.f x.1 x.2 = some true := by
 have hr : reachBytes ≤ BIG := by decide
 refine law_WT (fun c hc => ?_) x.2
 have h := hx.1.2 c hc
 have g : c.2.1.size ≤ reachBytes := h.2.1
 exact Nat.le_trans g hr
end Go.Proofs.YtahlodpolggeiaaGreatDoor
