/-
  Plain laws over the printed functions: words, labels, writers, by both. No condition.
-/
import Derived.Test.YtahlodpolggeiaaDoorTrFun
import Derived.Sort.Walk0
import Derived.Laws.RangeAny
import Derived.Lib.IndexLaws
set_option linter.unusedVariables false
set_option linter.unusedSimpArgs false
namespace Go.Proofs.YtahlodpolggeiaaDoor
open Go Go.Proofs.YtahlodpolggeiaaDoor.Eng
abbrev Nd := ByteArray × (ByteArray × ((List ByteArray) × ((List ByteArray) × ((List ByteArray) × Int))))
def BIG : Nat := 140737488355328
theorem size_list (s : ByteArray) : s.size = s.data.toList.length := by rw [ByteArray.size]; simp
theorem bt_get {s : ByteArray} {k : Nat} (h : k < s.data.toList.length) : bt s (k : Int) = s.data.toList[k] := by
 have h' : k < s.size := by rw [size_list]; exact h
 unfold bt
 simp only [Int.toNat_natCast]
 rw [getElem?_pos s k h', Option.getD_some]
 rfl
theorem byteLoop {s : ByteArray} (hs : s.size ≤ BIG) (p : UInt8 → Bool) (f : Int → Option (Int ⊕ (Bool ⊕ Unit))) (hend : ∀ k : Nat, s.data.toList.length ≤ k → f k = some (.inr (.inr ())))
  (hno : ∀ k : Nat, ∀ h : k < s.data.toList.length, p s.data.toList[k] = false → f k = some (.inr (.inl false))) (hyes : ∀ k : Nat, ∀ h : k < s.data.toList.length, p s.data.toList[k] = true → f k = some (.inl ((k : Int) + 1))) :
  ∀ (n k : Nat), s.data.toList.length - k = n → loopX f (k : Int) = some (if (s.data.toList.drop k).all p then .inr () else .inl false) := by
 intro n
 induction n with
 | zero =>
  intro k hn
  rw [List.drop_eq_nil_of_le (by omega)]
  exact loopX_done (hend k (by omega))
 | succ n ih =>
  intro k hn
  have hlt : k < s.data.toList.length := by omega
  rw [List.drop_eq_getElem_cons hlt, List.all_cons]
  cases hp : p s.data.toList[k] with
  | false => exact loopX_done (hno k hlt hp)
  | true =>
   rw [Bool.true_and]
   exact (loopX_next (hyes k hlt hp)).trans (ih (k + 1) (by omega))
def partC (c : UInt8) : Bool := decide (97 ≤ c.toNat ∧ c.toNat ≤ 122) || decide (65 ≤ c.toNat ∧ c.toNat ≤ 90) || decide (48 ≤ c.toNat ∧ c.toNat ≤ 57) || decide (0 ≤ Lib.indexByte [46, 95, 45, 43] c)
theorem inPart_eq (c : UInt8) : blob_inPart.f c = some (partC c) := by
 have hi : strings_IndexByte.f bs_46_95_45_43 c = some (Lib.indexByte [46, 95, 45, 43] c) := rfl
 unfold blob_inPart.f partC
 simp only [cb_dec, hi, ob_s]
 by_cases h1 : (97 : Int) ≤ ((UInt8.toNat c : Nat) : Int) <;> by_cases h2 : ((UInt8.toNat c : Nat) : Int) ≤ 122 <;> by_cases h3 : (65 : Int) ≤ ((UInt8.toNat c : Nat) : Int) <;> by_cases h4 : ((UInt8.toNat c : Nat) : Int) ≤ 90 <;>
  by_cases h5 : (48 : Int) ≤ ((UInt8.toNat c : Nat) : Int) <;> by_cases h6 : ((UInt8.toNat c : Nat) : Int) ≤ 57 <;> simp only [h1, h2, h3, h4, h5, h6, if_true, if_false] <;> congr 1 <;>
  (have g1 : decide (97 ≤ c.toNat ∧ c.toNat ≤ 122) = decide ((97 : Int) ≤ ((UInt8.toNat c : Nat) : Int) ∧ ((UInt8.toNat c : Nat) : Int) ≤ 122) := decide_eq_decide.2 (by omega)
   have g2 : decide (65 ≤ c.toNat ∧ c.toNat ≤ 90) = decide ((65 : Int) ≤ ((UInt8.toNat c : Nat) : Int) ∧ ((UInt8.toNat c : Nat) : Int) ≤ 90) := decide_eq_decide.2 (by omega)
   have g3 : decide (48 ≤ c.toNat ∧ c.toNat ≤ 57) = decide ((48 : Int) ≤ ((UInt8.toNat c : Nat) : Int) ∧ ((UInt8.toNat c : Nat) : Int) ≤ 57) := decide_eq_decide.2 (by omega)
   rw [g1, g2, g3]; simp [h1, h2, h3, h4, h5, h6])
def isPartB (s : ByteArray) : Bool := s.data.toList.all partC && (!decide (s = bs_) && (!decide (s = bs_46) && !decide (s = bs_46_46)))
theorem isPart_eq {s : ByteArray} (hs : s.size ≤ BIG) : blob_isPart.f s = some (isPartB s) := by
 have hb : BIG = 140737488355328 := rfl
 have hl := size_list s
 have h := byteLoop hs partC (fun x => blob_isPart.s0 s (s.size : Int) x) (fun k hk => by
  simp only [blob_isPart.s0, cb_dec]; rw [if_neg (by omega)]) (fun k hk hp => by
  simp only [blob_isPart.s0, cb_dec, bt_get hk, inPart_eq, hp, ob_s]; rw [if_pos (by omega), ck_pos (by omega)]; rfl) (fun k hk hp => by
  simp only [blob_isPart.s0, cb_dec, bt_get hk, inPart_eq, hp, ob_s]; rw [if_pos (by omega), ck_pos (by omega), ck_in (by omega) (by omega)]; rfl) s.data.toList.length 0 (by omega)
 rw [List.drop_zero] at h
 unfold blob_isPart.f isPartB
 show ob (loopX (fun x => blob_isPart.s0 s (s.size : Int) x) ((0 : Nat) : Int)) _ = _
 rw [h]
 cases s.data.toList.all partC
 ·rfl
 ·simp only [if_true, ob_s, caseS_r, Bool.true_and, cb_not, cb_dec]
  by_cases e1 : s = bs_
  ·rw [if_pos e1, decide_eq_true e1]; rfl
  ·rw [if_neg e1, decide_eq_false e1]
   by_cases e2 : s = bs_46
   ·rw [if_pos e2, decide_eq_true e2]; rfl
   ·rw [if_neg e2, decide_eq_false e2]; rfl
theorem indexByte_lt : ∀ (l : List UInt8) (c : UInt8), -1 ≤ Lib.indexByte l c ∧ Lib.indexByte l c < l.length
 | [], c => by simp [Lib.indexByte]
 | b :: l, c => by
  have h := indexByte_lt l c
  unfold Lib.indexByte
  split
  ·simp only [List.length_cons]; omega
  ·split
   ·simp only [List.length_cons]; omega
   ·rename_i h1
    have : ¬ Lib.indexByte l c = -1 := by simpa using h1
    simp only [List.length_cons]; omega
theorem index47 (s : ByteArray) : strings_Index.f s bs_47 = some (Lib.indexByte s.data.toList 47) := by
 show ob (ck _ _) _ = _
 rw [ck_pos (by rfl)]; rfl
theorem index58 (s : ByteArray) : internal_stringslite_Index.f s bs_58 = some (Lib.indexByte s.data.toList 58) := by
 show ck _ _ = _
 rw [ck_pos (by rfl)]; rfl
theorem extract_size (s : ByteArray) (a b : Nat) : (s.extract a b).size = min b s.size - a := by simp [ByteArray.size_extract]
theorem splitLoop {n : Nat} (hn : n ≤ 1000000000000) : ∀ (m i : Nat) (s : ByteArray) (a : List ByteArray), n - i = m → i ≤ n → a.length = n + 1 → s.size ≤ BIG →
  ∃ (s' : ByteArray) (i' : Nat) (a' : List ByteArray), strings_genSplit.l0 bs_47 0 (n : Int) s (i : Int) a = some (s', (i' : Int), a') ∧ i' ≤ n ∧ a'.length = n + 1 ∧ (∀ x ∈ a', x.size ≤ s.size ∨ x ∈ a) ∧ s'.size ≤ s.size := by
 intro m
 have hb : BIG = 140737488355328 := rfl
 induction m with
 | zero =>
  intro i s a hm hi ha hs
  refine ⟨s, i, a, loopX_done ?_, hi, ha, fun x hx => .inr hx, Nat.le_refl _⟩
  simp only [strings_genSplit.s0, cb_dec]
  rw [if_neg (by omega)]
 | succ m ih =>
  intro i s a hm hi ha hs
  have hx := indexByte_lt s.data.toList 47
  have hl := size_list s
  by_cases hneg : Lib.indexByte s.data.toList 47 < 0
  ·refine ⟨s, i, a, loopX_done ?_, hi, ha, fun x hx => .inr hx, Nat.le_refl _⟩
   simp only [strings_genSplit.s0, cb_dec, index47, ob_s]
   rw [if_pos (by omega), if_pos hneg]
  ·have hz1 := extract_size s 0 (Int.toNat (Lib.indexByte s.data.toList 47 + 0))
   have hz2 := extract_size s (Int.toNat (Lib.indexByte s.data.toList 47 + ((bs_47.size : Nat) : Int))) s.size
   have h1 : bs_47.size = 1 := rfl
   obtain ⟨s', i', a', h2, h3, h4, h5, h6⟩ := ih (i + 1) (s.extract (Int.toNat (Lib.indexByte s.data.toList 47 + ((bs_47.size : Nat) : Int))) s.size) (a.set i (s.extract 0 (Int.toNat (Lib.indexByte s.data.toList 47 + 0)))) (by omega) (by omega) (by simpa using ha) (by rw [hz2]; omega)
   refine ⟨s', i', a', (loopX_next ?_).trans h2, h3, h4, fun x hx => ?_, by omega⟩
   ·simp only [strings_genSplit.s0, cb_dec, index47, ob_s]
    rw [if_pos (by omega), if_neg hneg, ck_in (by omega) (by omega), ck_pos (by omega), ck_pos (by omega), ck_pos (by rw [Int.toNat_natCast]; omega), ck_in (by rw [h1]; omega) (by rw [h1]; omega), ck_pos (by rw [h1]; omega), ck_in (by omega) (by omega)]
    rfl
   ·rcases h5 x hx with h | h
    ·left; omega
    ·rcases List.mem_or_eq_of_mem_set h with h | h
     ·exact .inr h
     ·left; rw [h, hz1]; omega
theorem countByte_le (l : List UInt8) (c : UInt8) : (Lib.countByte l c : Nat) ≤ l.length := List.count_le_length
theorem split_some {s : ByteArray} (hs : s.size ≤ 100000000000) : ∃ l, strings_Split.f s bs_47 = some l ∧ l.length ≤ 100000000002 ∧ ∀ x ∈ l, x.size ≤ s.size := by
 have hb : BIG = 140737488355328 := rfl
 have hl := size_list s
 have hc := countByte_le s.data.toList 47
 have hcnt : strings_Count.f s bs_47 = some ((Lib.countByte s.data.toList 47 : Nat) : Int) := by
  show ck _ _ = _
  rw [ck_pos (by rfl)]; rfl
 obtain ⟨s', i', a', h2, h3, h4, h5, h6⟩ := splitLoop (n := Lib.countByte s.data.toList 47) (by omega) _ 0 s (List.replicate (Lib.countByte s.data.toList 47 + 1) ByteArray.empty) rfl (Nat.zero_le _) (by simp) (by omega)
 unfold strings_Split.f strings_genSplit.f
 have e1 : ¬ (bs_47 = bs_) := by decide
 have hy : min (((Lib.countByte s.data.toList 47 : Nat) : Int) + 1) (((s.size : Nat) : Int) + 1) = ((Lib.countByte s.data.toList 47 + 1 : Nat) : Int) := by omega
 simp only [cb_dec, hcnt, ob_s, hy]
 rw [if_neg (by decide), if_neg e1, if_pos (by decide), ck_in (by omega) (by omega), ck_in (by omega) (by omega), ck_pos (by omega), ck_in (by omega) (by omega)]
 rw [show ((Lib.countByte s.data.toList 47 + 1 : Nat) : Int) - 1 = ((Lib.countByte s.data.toList 47 : Nat) : Int) by omega, Int.toNat_natCast]
 rw [show ((0 : Nat) : Int) = 0 from rfl] at h2
 rw [h2, ob_s]
 simp only
 rw [ck_pos (by omega), ck_pos (by rw [Int.toNat_natCast]; omega), ck_in (by omega) (by omega), ck_pos (by simp only [List.length_set]; omega), ob_s]
 refine ⟨_, rfl, by simp only [List.length_take, List.length_drop, List.length_set]; omega, fun x hx => ?_⟩
 have hx1 := List.mem_of_mem_drop (List.mem_of_mem_take hx)
 rcases List.mem_or_eq_of_mem_set hx1 with h | h
 ·rcases h5 x h with h | h
  ·exact h
  ·have := List.eq_of_mem_replicate h
   rw [this]; exact Nat.zero_le _
 ·rw [h]; exact h6
noncomputable def splitL (s : ByteArray) : List ByteArray := (strings_Split.f s bs_47).getD []
theorem split_eq {s : ByteArray} (hs : s.size ≤ 100000000000) : strings_Split.f s bs_47 = some (splitL s) ∧ (splitL s).length ≤ 100000000002 ∧ ∀ x ∈ splitL s, x.size ≤ s.size := by
 obtain ⟨l, h1, h2, h3⟩ := split_some hs
 have e : splitL s = l := by unfold splitL; rw [h1]; rfl
 rw [e]
 exact ⟨h1, h2, h3⟩
theorem listLoop {α : Type} {l : List α} (p : α → Bool) (f : Int → Option (Int ⊕ (Bool ⊕ Unit))) (hend : ∀ k : Nat, l.length ≤ k → f k = some (.inr (.inr ())))
  (hno : ∀ k : Nat, ∀ h : k < l.length, p l[k] = false → f k = some (.inr (.inl false))) (hyes : ∀ k : Nat, ∀ h : k < l.length, p l[k] = true → f k = some (.inl ((k : Int) + 1))) :
  ∀ (n k : Nat), l.length - k = n → loopX f (k : Int) = some (if (l.drop k).all p then .inr () else .inl false) := by
 intro n
 induction n with
 | zero =>
  intro k hn
  rw [List.drop_eq_nil_of_le (by omega)]
  exact loopX_done (hend k (by omega))
 | succ n ih =>
  intro k hn
  have hlt : k < l.length := by omega
  rw [List.drop_eq_getElem_cons hlt, List.all_cons]
  cases hp : p l[k] with
  | false => exact loopX_done (hno k hlt hp)
  | true =>
   rw [Bool.true_and]
   exact (loopX_next (hyes k hlt hp)).trans (ih (k + 1) (by omega))
noncomputable def isPathB (s : ByteArray) : Bool := if 1 ≤ s.size ∧ s.size ≤ 200 then (splitL s).all isPartB else false
theorem isPath_eq (s : ByteArray) : blob_IsPath.f s = some (isPathB s) := by
 have hb : BIG = 140737488355328 := rfl
 unfold blob_IsPath.f isPathB
 simp only [cb_dec]
 by_cases h1 : ((s.size : Nat) : Int) < 1
 ·rw [if_pos h1, if_neg (by omega)]
 ·by_cases h2 : (200 : Int) < ((s.size : Nat) : Int)
  ·rw [if_neg h1, if_pos h2, if_neg (by omega)]
  ·obtain ⟨g1, g2, g3⟩ := split_eq (s := s) (by omega)
   have h := listLoop (l := splitL s) isPartB (fun x => blob_IsPath.s0 (splitL s) ((splitL s).length : Int) x) (fun k hk => by
    simp only [blob_IsPath.s0, cb_dec]; rw [if_neg (by omega)]) (fun k hk hp => by
    have hz := g3 _ (List.getElem_mem hk)
    simp only [blob_IsPath.s0, cb_dec, rd_lt hk, isPart_eq (s := (splitL s)[k]) (by omega), hp, ob_s]; rw [if_pos (by omega), ck_pos (by omega)]; rfl) (fun k hk hp => by
    have hz := g3 _ (List.getElem_mem hk)
    simp only [blob_IsPath.s0, cb_dec, rd_lt hk, isPart_eq (s := (splitL s)[k]) (by omega), hp, ob_s]; rw [if_pos (by omega), ck_pos (by omega), ck_in (by omega) (by omega)]; rfl) (splitL s).length 0 (by omega)
   rw [List.drop_zero] at h
   rw [if_neg h1, if_neg h2, if_pos (by omega), g1, ob_s]
   show ob (loopX (fun x => blob_IsPath.s0 (splitL s) ((splitL s).length : Int) x) ((0 : Nat) : Int)) _ = _
   rw [h]
   cases (splitL s).all isPartB <;> rfl
def hasP (s p : ByteArray) : Bool := decide (p.size ≤ s.size) && decide (s.extract 0 p.size = p)
theorem hasPrefix_eq (s p : ByteArray) : internal_stringslite_HasPrefix.f s p = some (hasP s p) := by
 unfold internal_stringslite_HasPrefix.f hasP
 simp only [cb_dec, Int.toNat_natCast]
 by_cases h : p.size ≤ s.size
 ·rw [if_pos (by omega), ck_pos (by omega), decide_eq_true h, Bool.true_and]
 ·rw [if_neg (by omega), decide_eq_false h, Bool.false_and]
def cutP (s p : ByteArray) : ByteArray × Bool := if hasP s p then (s.extract p.size s.size, true) else (s, false)
theorem cutPrefix_eq (s p : ByteArray) : strings_CutPrefix.f s p = some (cutP s p) := by
 unfold strings_CutPrefix.f internal_stringslite_CutPrefix.f cutP
 simp only [hasPrefix_eq, ob_s, Int.toNat_natCast]
 cases h : hasP s p with
 | false => rfl
 | true =>
  have h' : p.size ≤ s.size := by
   unfold hasP at h
   rw [Bool.and_eq_true] at h
   exact of_decide_eq_true h.1
  simp only [Bool.not_true, cb_f]
  rw [ck_pos (by omega)]
  rfl
def cut58 (s : ByteArray) : ByteArray × (ByteArray × Bool) :=
 if 0 ≤ Lib.indexByte s.data.toList 58 then (s.extract 0 (Lib.indexByte s.data.toList 58).toNat, s.extract ((Lib.indexByte s.data.toList 58).toNat + 1) s.size, true) else (s, bs_, false)
theorem cut_eq {s : ByteArray} (hs : s.size ≤ BIG) : strings_Cut.f s bs_58 = some (cut58 s) := by
 have hb : BIG = 140737488355328 := rfl
 have hx := indexByte_lt s.data.toList 58
 have hl := size_list s
 have h1 : bs_58.size = 1 := rfl
 unfold strings_Cut.f internal_stringslite_Cut.f cut58
 simp only [index58, ob_s, cb_dec, h1]
 by_cases h : 0 ≤ Lib.indexByte s.data.toList 58
 ·rw [if_pos h, if_pos h, ck_pos (by omega), ck_in (by omega) (by omega), ck_pos (by omega), ob_s]
  rw [show (Lib.indexByte s.data.toList 58 + ((1 : Nat) : Int)).toNat = (Lib.indexByte s.data.toList 58).toNat + 1 by omega]
 ·rw [if_neg h, if_neg h]; rfl
theorem last_some {s : ByteArray} (hs : s.size ≤ BIG) : ∃ r, script_last.f s = some r ∧ r.size ≤ s.size := by
 have hb : BIG = 140737488355328 := rfl
 have hl := size_list s
 have go : ∀ (m : Nat) (k : Int), (k + 1).toNat = m → -1 ≤ k → k < s.size → ∃ r, internal_bytealg_LastIndexByteString.l0 s (UInt8.ofInt 47) k = some r ∧ ∀ i, r = .inl i → 0 ≤ i ∧ i < s.size := by
  intro m
  induction m with
  | zero =>
   intro k hm h1 h2
   refine ⟨.inr (), loopX_done ?_, fun i h => by cases h⟩
   simp only [internal_bytealg_LastIndexByteString.s0, cb_dec]
   rw [if_neg (by omega)]
  | succ m ih =>
   intro k hm h1 h2
   by_cases he : ((UInt8.toNat (bt s k) : Nat) : Int) = ((UInt8.toNat (UInt8.ofInt 47) : Nat) : Int)
   ·refine ⟨.inl k, loopX_done ?_, fun i h => by cases h; omega⟩
    simp only [internal_bytealg_LastIndexByteString.s0, cb_dec]
    rw [if_pos (by omega), ck_pos (by omega), if_pos he]
   ·obtain ⟨r, h3, h4⟩ := ih (k - 1) (by omega) (by omega) (by omega)
    refine ⟨r, (loopX_next ?_).trans h3, h4⟩
    simp only [internal_bytealg_LastIndexByteString.s0, cb_dec]
    rw [if_pos (by omega), ck_pos (by omega), if_neg he, ck_in (by omega) (by omega)]
 obtain ⟨r, h1, h2⟩ := go _ (((s.size : Nat) : Int) - 1) rfl (by omega) (by omega)
 unfold script_last.f strings_LastIndexByte.f internal_bytealg_LastIndexByteString.f
 simp only [h1, ob_s]
 rw [ck_in (by omega) (by omega)]
 cases r with
 | inl i =>
  have := h2 i rfl
  simp only [caseS_l, ob_s]
  rw [ck_in (by omega) (by omega), ck_pos (by omega)]
  exact ⟨_, rfl, by rw [extract_size]; omega⟩
 | inr u =>
  simp only [caseS_r, ob_s]
  rw [ck_in (by omega) (by omega), ck_pos (by omega)]
  exact ⟨_, rfl, by rw [extract_size]; omega⟩
noncomputable def labF (a : ByteArray × ByteArray) : Int := if (a.1 = bs_ ∨ isPathB a.1 = true) ∧ isPathB a.2 = true then 0 else 3
theorem checkLabel_eq (a : ByteArray × ByteArray) : script_CheckLabel.f a = some (labF a) := by
 unfold script_CheckLabel.f labF
 simp only [isPath_eq, ob_s, cb_not, cb_dec]
 by_cases e : a.1 = bs_
 ·simp only [e, if_true, true_or, true_and]
  cases isPathB a.2 <;> rfl
 ·simp only [e, if_false, false_or]
  cases isPathB a.1 <;> cases isPathB a.2 <;> rfl
end Go.Proofs.YtahlodpolggeiaaDoor
set_option linter.unusedVariables false
set_option linter.unusedSimpArgs false
namespace Go.Proofs.YtahlodpolggeiaaDoor
open Go Go.Proofs.YtahlodpolggeiaaDoor.Eng
def cmpS (a b : ByteArray) : Int := Lib.compareBytes a.data.toList b.data.toList
theorem cmpL_less : ∀ a b : List UInt8, (Lib.compareBytes a b < 0 ↔ Op.bytesLess a b = true)
 | [], [] => by simp [Lib.compareBytes, Op.bytesLess]
 | [], _ :: _ => by simp [Lib.compareBytes, Op.bytesLess]
 | _ :: _, [] => by simp [Lib.compareBytes, Op.bytesLess]
 | x :: a, y :: b => by
  have ih := cmpL_less a b
  unfold Lib.compareBytes Op.bytesLess
  by_cases h1 : x < y
  ·simp [h1]
  ·by_cases h2 : y < x
   ·have h3 : ¬ x = y := fun e => by subst e; exact absurd h2 (UInt8.lt_irrefl x)
    simp [h1, h2, h3]
   ·have h3 : x = y := UInt8.le_antisymm (UInt8.not_lt.1 h2) (UInt8.not_lt.1 h1)
    subst h3
    simp only [h1, if_false, decide_false, Bool.false_or, beq_self_eq_true, Bool.true_and]
    exact ih
theorem cmpL_eq0 : ∀ a b : List UInt8, (Lib.compareBytes a b = 0 ↔ a = b)
 | [], [] => by simp [Lib.compareBytes]
 | [], _ :: _ => by simp [Lib.compareBytes]
 | _ :: _, [] => by simp [Lib.compareBytes]
 | x :: a, y :: b => by
  have ih := cmpL_eq0 a b
  unfold Lib.compareBytes
  by_cases h1 : x < y
  ·have h3 : ¬ x = y := fun e => by subst e; exact absurd h1 (UInt8.lt_irrefl x)
   simp [h1, h3]
  ·by_cases h2 : y < x
   ·have h3 : ¬ x = y := fun e => by subst e; exact absurd h2 (UInt8.lt_irrefl x)
    simp [h1, h2, h3]
   ·have h3 : x = y := UInt8.le_antisymm (UInt8.not_lt.1 h2) (UInt8.not_lt.1 h1)
    subst h3
    simp only [h1, if_false, List.cons.injEq, true_and]
    exact ih
theorem cmpL_swap : ∀ a b : List UInt8, Lib.compareBytes b a = - Lib.compareBytes a b
 | [], [] => rfl
 | [], _ :: _ => rfl
 | _ :: _, [] => rfl
 | x :: a, y :: b => by
  have ih := cmpL_swap a b
  unfold Lib.compareBytes
  by_cases h1 : x < y
  ·have h2 : ¬ y < x := UInt8.not_lt.2 (UInt8.le_of_lt h1)
   simp [h1, h2]
  ·by_cases h2 : y < x
   ·simp [h1, h2]
   ·simp only [h1, h2, if_false]; exact ih
theorem cmpL_trans : ∀ a b c : List UInt8, Lib.compareBytes a b < 0 → Lib.compareBytes b c < 0 → Lib.compareBytes a c < 0
 | [], [], c, h, _ => by simp [Lib.compareBytes] at h
 | [], _ :: _, [], _, h => by simp [Lib.compareBytes] at h
 | [], _ :: _, _ :: _, _, _ => by simp [Lib.compareBytes]
 | _ :: _, [], c, h, _ => by simp [Lib.compareBytes] at h
 | _ :: _, _ :: _, [], _, h => by simp [Lib.compareBytes] at h
 | x :: a, y :: b, z :: c, h, h' => by
  have ih := cmpL_trans a b c
  unfold Lib.compareBytes at h h' ⊢
  by_cases h1 : x < y
  ·by_cases h2 : y < z
   ·simp [UInt8.lt_trans h1 h2]
   ·by_cases h3 : z < y
    ·simp [h2, h3] at h'
    ·have e : y = z := UInt8.le_antisymm (UInt8.not_lt.1 h3) (UInt8.not_lt.1 h2)
     subst e; simp [h1]
  ·by_cases h2 : y < x
   ·simp [h1, h2] at h
   ·have e : x = y := UInt8.le_antisymm (UInt8.not_lt.1 h2) (UInt8.not_lt.1 h1)
    subst e
    by_cases h3 : x < z
    ·simp [h3]
    ·by_cases h4 : z < x
     ·simp [h3, h4] at h'
     ·simp only [h1, if_false] at h
      simp only [h3, h4, if_false] at h' ⊢
      exact ih h h'
theorem bless_iff (a b : ByteArray) : bless a b = true ↔ cmpS a b < 0 := by
 unfold bless cmpS
 rw [ByteArray.toList_eq, ByteArray.toList_eq]
 exact (cmpL_less _ _).symm
theorem cmpS_eq0 (a b : ByteArray) : cmpS a b = 0 ↔ a = b := by
 unfold cmpS
 rw [cmpL_eq0]
 exact ⟨fun h => ByteArray.ext (Array.toList_inj.1 h), fun h => by rw [h]⟩
theorem cmpS_swap (a b : ByteArray) : cmpS b a = - cmpS a b := cmpL_swap _ _
theorem cmpS_trans {a b c : ByteArray} (h : cmpS a b < 0) (h' : cmpS b c < 0) : cmpS a c < 0 := cmpL_trans _ _ _ h h'
theorem leq_iff (a b : ByteArray) : (bless a b || decide (a = b)) = decide (cmpS a b ≤ 0) := by
 have h1 := bless_iff a b
 have h2 := cmpS_eq0 a b
 by_cases h : cmpS a b < 0
 ·rw [h1.2 h, Bool.true_or, decide_eq_true (by omega)]
 ·have hf : bless a b = false := by
   cases hb : bless a b with
   | false => rfl
   | true => exact absurd (h1.1 hb) h
  rw [hf, Bool.false_or]
  exact decide_eq_decide.2 ⟨fun e => by rw [h2.2 e]; exact Int.le_refl _, fun e => h2.1 (by omega)⟩
def Rising (l : List ByteArray) : Prop := ∀ i j : Nat, ∀ h : j < l.length, ∀ h' : i < j, cmpS (l[i]'(by omega)) l[j] < 0
theorem rising_step {l : List ByteArray} (h : ∀ k : Nat, ∀ hk : k + 1 < l.length, cmpS (l[k]'(by omega)) l[k + 1] < 0) : Rising l := by
 intro i j
 induction j with
 | zero => intro h h'; omega
 | succ j ih =>
  intro hj hij
  rcases Nat.lt_or_ge i j with h1 | h1
  ·exact cmpS_trans (ih (by omega) h1) (h j hj)
  ·have : i = j := by omega
   subst this
   exact h i hj
theorem Rising.inj {l : List ByteArray} (h : Rising l) {i j : Nat} (hi : i < l.length) (hj : j < l.length) (e : l[i] = l[j]) : i = j := by
 rcases Nat.lt_trichotomy i j with h1 | h1 | h1
 ·have := h i j hj h1
  rw [e] at this
  have h0 := (cmpS_eq0 l[j] l[j]).2 rfl
  omega
 ·exact h1
 ·have := h j i hi h1
  rw [e] at this
  have h0 := (cmpS_eq0 l[j] l[j]).2 rfl
  omega
end Go.Proofs.YtahlodpolggeiaaDoor
set_option linter.unusedVariables false
set_option linter.unusedSimpArgs false
namespace Go.Proofs.YtahlodpolggeiaaDoor
open Go Go.Lib Go.Proofs.YtahlodpolggeiaaDoor.Eng
def plainC (c : UInt8) : Bool := decide (33 ≤ c.toNat ∧ c.toNat ≤ 126)
def plainB (s : ByteArray) : Bool := s.data.toList.all plainC
theorem get_list {s : ByteArray} {k : Nat} (h : k < s.size) : s[k] = s.data.toList[k]'(by rw [← size_list]; exact h) := by
 rfl
theorem idx_plain (s : ByteArray) : ∀ (f pos : Nat), s.size - pos ≤ f → decide (0 ≤ idxFuncFrom notPlain true s f pos) = !(s.data.toList.drop pos).all plainC
 | 0, pos, h => by
  have hl := size_list s
  rw [List.drop_eq_nil_of_le (by omega)]
  rfl
 | f + 1, pos, h => by
  have hl := size_list s
  unfold idxFuncFrom
  by_cases hp : pos < s.size
  ·rw [if_pos hp]
   have hlt : pos < s.data.toList.length := by omega
   rw [List.drop_eq_getElem_cons hlt, List.all_cons]
   have hg := get_list hp
   by_cases ha : (s[pos]'hp).toNat < 128
   ·rw [decode_ascii s pos hp ha]
    simp only
    rw [hg]
    rw [hg] at ha
    by_cases hn : notPlain (s.data.toList[pos]).toNat = true
    ·rw [if_pos hn]
     have : plainC s.data.toList[pos] = false := by
      unfold plainC
      unfold notPlain at hn
      have := of_decide_eq_true hn
      exact decide_eq_false (by omega)
     rw [this, Bool.false_and, decide_eq_true (by omega)]; rfl
    ·rw [if_neg hn, idx_plain s f (pos + 1) (by omega)]
     have : plainC s.data.toList[pos] = true := by
      unfold plainC
      unfold notPlain at hn
      have : ¬ ((s.data.toList[pos]).toNat < 33 ∨ 126 < (s.data.toList[pos]).toNat) := fun h => hn (decide_eq_true h)
      exact decide_eq_true (by omega)
     rw [this, Bool.true_and]
   ·have hd := decode_high s pos hp (by omega)
    have hn : notPlain (Utf8.decode s pos).1 = true := decide_eq_true (by omega)
    rw [if_pos hn]
    have : plainC s.data.toList[pos] = false := by
     unfold plainC
     rw [← hg]
     exact decide_eq_false (by omega)
    rw [this, Bool.false_and, decide_eq_true (by omega)]; rfl
  ·rw [if_neg hp, List.drop_eq_nil_of_le (by omega)]
   rfl
theorem isPlain_eq (s : ByteArray) : trust_isPlain.f s = some (plainB s) := by
 unfold trust_isPlain.f strings_ContainsFunc_f72.f
 have h := idx_plain s s.size 0 (by omega)
 rw [List.drop_zero] at h
 have h' : decide (0 ≤ idxFunc notPlain true s) = !plainB s := h
 rw [ob_s, h', Bool.not_not]
theorem isRow_eq {s : ByteArray} (hs : s.size ≤ BIG) : ref11_isRow.f s = some (plainB s && !decide (s = bs_)) := by
 have hb : BIG = 140737488355328 := rfl
 have hl := size_list s
 have h := byteLoop hs plainC (fun x => ref11_isRow.s0 s (s.size : Int) x) (fun k hk => by
  simp only [ref11_isRow.s0, cb_dec]; rw [if_neg (by omega)]) (fun k hk hp => by
  have hp' := of_decide_eq_false hp
  simp only [ref11_isRow.s0, cb_dec, bt_get hk]
  rw [if_pos (by omega), ck_pos (by omega)]
  by_cases h1 : ((UInt8.toNat s.data.toList[k] : Nat) : Int) < 33
  ·rw [if_pos h1]
  ·rw [if_neg h1, ck_pos (by omega), if_pos (by omega)]) (fun k hk hp => by
  have hp' := of_decide_eq_true hp
  simp only [ref11_isRow.s0, cb_dec, bt_get hk]
  rw [if_pos (by omega), ck_pos (by omega), if_neg (by omega), ck_pos (by omega), if_neg (by omega), ck_in (by omega) (by omega)]) s.data.toList.length 0 (by omega)
 rw [List.drop_zero] at h
 unfold ref11_isRow.f
 show ob (loopX (fun x => ref11_isRow.s0 s (s.size : Int) x) ((0 : Nat) : Int)) _ = _
 rw [h]
 unfold plainB
 cases s.data.toList.all plainC <;> rfl
theorem size_nil {s : ByteArray} : s.size = 0 ↔ s = bs_ := by
 constructor
 ·intro h
  have hl := size_list s
  have : s.data.toList = [] := List.eq_nil_of_length_eq_zero (by omega)
  apply ByteArray.ext
  apply Array.toList_inj.1
  rw [this]; rfl
 ·rintro rfl; rfl
theorem isSecret_eq {s : ByteArray} (hs : s.size ≤ BIG) : trust_isSecret.f s = ref11_isSecret.f s := by
 unfold trust_isSecret.f ref11_isSecret.f
 simp only [isPlain_eq, isRow_eq hs, ob_s, cb_dec]
 by_cases h0 : s = bs_
 ·subst h0; rfl
 ·have h1 : (1 : Int) ≤ ((s.size : Nat) : Int) := by
   have : s.size ≠ 0 := fun h => h0 (size_nil.1 h)
   omega
  rw [if_pos h1, decide_eq_false h0, Bool.not_false, Bool.and_true]
  by_cases h2 : ((s.size : Nat) : Int) ≤ 100
  ·rw [if_pos h2, decide_eq_true h2]
   cases plainB s <;> rfl
  ·rw [if_neg h2, decide_eq_false h2]
   cases plainB s <;> rfl
def wordC (c : UInt8) : Bool := decide (97 ≤ c.toNat ∧ c.toNat ≤ 122) || decide (48 ≤ c.toNat ∧ c.toNat ≤ 57) || decide (c.toNat = 45) || decide (c.toNat = 95)
theorem dropWhile_nil {p : UInt8 → Bool} : ∀ {l : List UInt8}, l.dropWhile p = [] ↔ l.all p = true
 | [] => by simp
 | x :: l => by
  rw [List.dropWhile_cons, List.all_cons]
  cases h : p x with
  | true => simp only [if_true, Bool.true_and]; exact dropWhile_nil
  | false => simp
theorem dropWhile_all {p : UInt8 → Bool} : ∀ {l : List UInt8}, (l.dropWhile p).all p = l.all p
 | [] => rfl
 | x :: l => by
  rw [List.dropWhile_cons]
  cases h : p x with
  | true => simp only [if_true, List.all_cons, h, Bool.true_and]; exact dropWhile_all
  | false => simp only [Bool.false_eq_true, if_false]
theorem trim_nil (l cs : List UInt8) : trimS l cs = [] ↔ l.all (fun c => cs.contains c) = true := by
 have e1 : trimLeftS (trimRightS l cs) cs = ((l.reverse.dropWhile (cs.contains ·)).reverse).dropWhile (cs.contains ·) := rfl
 unfold trimS
 rw [e1, dropWhile_nil, List.all_reverse, dropWhile_all, List.all_reverse]
abbrev wordCs : ByteArray := bs_97_98_99_100_101_102_103_104_105_106_107_108_109_110_111_112_113_114_115_116_117_118_119_120_121_122_48_49_50_51_52_53_54_55_56_57_95_45
theorem wordC_eq (c : UInt8) : wordCs.data.toList.contains c = wordC c := by
 have key : ∀ n : Fin 256, wordCs.data.toList.contains (UInt8.ofNat n.val) = wordC (UInt8.ofNat n.val) := by decide +kernel
 have h := key ⟨c.toNat, c.toNat_lt⟩
 simp only [UInt8.ofNat_toNat] at h
 exact h
def wordB (s : ByteArray) : Bool := if 1 ≤ s.size ∧ s.size ≤ 40 then (decide (97 ≤ (bt s 0).toNat ∧ (bt s 0).toNat ≤ 122) && s.data.toList.all wordC) else false
theorem isWord_eq (s : ByteArray) : config_IsWord.f s = some (wordB s) := by
 unfold config_IsWord.f wordB
 simp only [cb_dec]
 by_cases h1 : ((s.size : Nat) : Int) < 1
 ·rw [if_pos h1, if_neg (by omega)]
 ·by_cases h2 : (40 : Int) < ((s.size : Nat) : Int)
  ·rw [if_neg h1, if_pos h2, if_neg (by omega)]
  ·rw [if_neg h1, if_neg h2, ck_pos (by omega), ck_pos (by omega), if_pos (show 1 ≤ s.size ∧ s.size ≤ 40 by omega)]
   by_cases h3 : ((UInt8.toNat (bt s 0) : Nat) : Int) < 97
   ·rw [if_pos h3, decide_eq_false (by omega), Bool.false_and]
   ·by_cases h4 : (122 : Int) < ((UInt8.toNat (bt s 0) : Nat) : Int)
    ·rw [if_neg h3, if_pos h4, decide_eq_false (by omega), Bool.false_and]
    ·rw [if_neg h3, if_neg h4, decide_eq_true (by omega), Bool.true_and]
     unfold strings_Trim.f
     rw [ck_pos ⟨by omega, by decide, by decide +kernel⟩, ob_s]
     congr 1
     have h5 : (⟨(trimS s.data.toList wordCs.data.toList).toArray⟩ : ByteArray) = bs_ ↔ s.data.toList.all wordC = true := by
      have e : s.data.toList.all wordC = s.data.toList.all (fun c => wordCs.data.toList.contains c) := by
       congr 1; funext c; exact (wordC_eq c).symm
      rw [e, ← trim_nil]
      constructor
      ·intro h
       have := congrArg (fun b : ByteArray => b.data.toList) h
       have h7 : trimS s.data.toList wordCs.data.toList = bs_.data.toList := by simpa using this
       exact h7.trans rfl
      ·intro h
       rw [h]; rfl
     cases h6 : s.data.toList.all wordC with
     | true => exact decide_eq_true (h5.2 h6)
     | false => exact decide_eq_false (fun h => by rw [h5.1 h] at h6; cases h6)
theorem isWord_ref (s : ByteArray) : ref11_isWord.f s = some (wordB s) := by
 have hl := size_list s
 unfold ref11_isWord.f ref11_within.f wordB
 simp only [cb_dec]
 by_cases h1 : (1 : Int) ≤ ((s.size : Nat) : Int)
 ·rw [if_pos h1, ob_s]
  by_cases h2 : ((s.size : Nat) : Int) ≤ 40
  ·rw [decide_eq_true h2, Bool.not_true, cb_f, ck_pos (by omega), ck_pos (by omega), if_pos (show 1 ≤ s.size ∧ s.size ≤ 40 by omega)]
   by_cases h3 : ((UInt8.toNat (bt s 0) : Nat) : Int) < 97
   ·rw [if_pos h3, decide_eq_false (by omega), Bool.false_and]
   ·by_cases h4 : (122 : Int) < ((UInt8.toNat (bt s 0) : Nat) : Int)
    ·rw [if_neg h3, if_pos h4, decide_eq_false (by omega), Bool.false_and]
    ·rw [if_neg h3, if_neg h4, decide_eq_true (by omega), Bool.true_and]
     have hb : BIG = 140737488355328 := rfl
     have h := byteLoop (s := s) (by omega) wordC (fun x => ref11_isWord.s0 s (s.size : Int) x) (fun k hk => by
      simp only [ref11_isWord.s0, cb_dec]; rw [if_neg (by omega)]) (fun k hk hp => by
      have c0 : 0 ≤ (k : Int) ∧ (k : Int) < ((s.size : Nat) : Int) := by omega
      have c1 : InR ((k : Int) + 1) := ⟨by omega, by omega⟩
      have hw : wordC s.data.toList[k] = false := hp
      simp only [ref11_isWord.s0, cb_dec, cb_not, bt_get hk, ck_pos c0, ck_pos c1, if_pos c0.2]
      unfold wordC at hw
      by_cases g1 : ((UInt8.toNat s.data.toList[k] : Nat) : Int) < 97 <;> by_cases g2 : (122 : Int) < ((UInt8.toNat s.data.toList[k] : Nat) : Int) <;> by_cases g3 : ((UInt8.toNat s.data.toList[k] : Nat) : Int) < 48 <;> by_cases g4 : (57 : Int) < ((UInt8.toNat s.data.toList[k] : Nat) : Int) <;>
       by_cases g5 : ((UInt8.toNat s.data.toList[k] : Nat) : Int) = 45 <;> by_cases g6 : ((UInt8.toNat s.data.toList[k] : Nat) : Int) = 95 <;> simp only [g1, g2, g3, g4, g5, g6, if_true, if_false] <;>
       first
       | rfl
       | (
        exfalso
        simp only [Bool.or_eq_true, Bool.or_eq_false_iff, decide_eq_true_eq, decide_eq_false_iff_not] at hw
        omega)) (fun k hk hp => by
      have c0 : 0 ≤ (k : Int) ∧ (k : Int) < ((s.size : Nat) : Int) := by omega
      have c1 : InR ((k : Int) + 1) := ⟨by omega, by omega⟩
      have hw : wordC s.data.toList[k] = true := hp
      simp only [ref11_isWord.s0, cb_dec, cb_not, bt_get hk, ck_pos c0, ck_pos c1, if_pos c0.2]
      unfold wordC at hw
      by_cases g1 : ((UInt8.toNat s.data.toList[k] : Nat) : Int) < 97 <;> by_cases g2 : (122 : Int) < ((UInt8.toNat s.data.toList[k] : Nat) : Int) <;> by_cases g3 : ((UInt8.toNat s.data.toList[k] : Nat) : Int) < 48 <;> by_cases g4 : (57 : Int) < ((UInt8.toNat s.data.toList[k] : Nat) : Int) <;>
       by_cases g5 : ((UInt8.toNat s.data.toList[k] : Nat) : Int) = 45 <;> by_cases g6 : ((UInt8.toNat s.data.toList[k] : Nat) : Int) = 95 <;> simp only [g1, g2, g3, g4, g5, g6, if_true, if_false] <;>
       first
       | rfl
       | (
        exfalso
        simp only [Bool.or_eq_true, Bool.or_eq_false_iff, decide_eq_true_eq, decide_eq_false_iff_not] at hw
        omega)) s.data.toList.length 0 (by omega)
     rw [List.drop_zero] at h
     show ob (loopX (fun x => ref11_isWord.s0 s (s.size : Int) x) ((0 : Nat) : Int)) _ = _
     rw [h]
     cases s.data.toList.all wordC <;> rfl
  ·rw [decide_eq_false h2, Bool.not_false, cb_t, if_neg (by omega)]
 ·rw [if_neg h1, ob_s, Bool.not_false, cb_t, if_neg (by omega)]
end Go.Proofs.YtahlodpolggeiaaDoor
set_option linter.unusedVariables false
set_option linter.unusedSimpArgs false
namespace Go.Proofs.YtahlodpolggeiaaDoor
open Go Go.Lib Go.Proofs.YtahlodpolggeiaaDoor.Eng
theorem L_ext {s t : ByteArray} (h : s.data.toList = t.data.toList) : s = t := by
 apply ByteArray.ext
 exact Array.toList_inj.1 h
theorem L_app (s t : ByteArray) : (s ++ t).data.toList = s.data.toList ++ t.data.toList := by simp
theorem L_ex (s : ByteArray) (a b : Nat) : (s.extract a b).data.toList = (s.data.toList.take b).drop a := by simp [ByteArray.data_extract, List.drop_take]
theorem refPart_eq {s : ByteArray} (hs : s.size ≤ BIG) : ref2_isPart.f s = some (isPartB s) := by
 have hb : BIG = 140737488355328 := rfl
 have hl := size_list s
 have hi : ∀ c, strings_IndexByte.f bs_46_95_45_43 c = some (Lib.indexByte [46, 95, 45, 43] c) := fun c => rfl
 have key : ∀ k : Nat, ∀ hk : k < s.data.toList.length, ref2_isPart.s0 s (s.size : Int) (k : Int) = some (if partC s.data.toList[k] = true then .inl ((k : Int) + 1) else .inr (.inl false)) := fun k hk => by
  have c0 : 0 ≤ (k : Int) ∧ (k : Int) < ((s.size : Nat) : Int) := by omega
  have c1 : InR ((k : Int) + 1) := ⟨by omega, by omega⟩
  simp only [ref2_isPart.s0, cb_dec, bt_get hk, hi, ob_s, ck_pos c0, ck_pos c1, if_pos c0.2]
  have e : partC s.data.toList[k] = (decide (97 ≤ (s.data.toList[k]).toNat ∧ (s.data.toList[k]).toNat ≤ 122) || decide (65 ≤ (s.data.toList[k]).toNat ∧ (s.data.toList[k]).toNat ≤ 90) || decide (48 ≤ (s.data.toList[k]).toNat ∧ (s.data.toList[k]).toNat ≤ 57) || decide (0 ≤ Lib.indexByte [46, 95, 45, 43] s.data.toList[k])) := rfl
  rw [e]
  by_cases g1 : ((UInt8.toNat s.data.toList[k] : Nat) : Int) < 97 <;> by_cases g2 : (122 : Int) < ((UInt8.toNat s.data.toList[k] : Nat) : Int) <;> by_cases g3 : ((UInt8.toNat s.data.toList[k] : Nat) : Int) < 65 <;> by_cases g4 : (90 : Int) < ((UInt8.toNat s.data.toList[k] : Nat) : Int) <;>
   by_cases g5 : ((UInt8.toNat s.data.toList[k] : Nat) : Int) < 48 <;> by_cases g6 : (57 : Int) < ((UInt8.toNat s.data.toList[k] : Nat) : Int) <;> by_cases g7 : Lib.indexByte [46, 95, 45, 43] s.data.toList[k] < 0 <;>
   first
   | (exfalso; omega)
   | (
    simp only [g1, g2, g3, g4, g5, g6, g7, if_true, if_false]
    first
    | (
     rw [if_pos]
     simp only [Bool.or_eq_true, decide_eq_true_eq]
     omega)
    | (
     rw [if_neg]
     simp only [Bool.or_eq_true, decide_eq_true_eq]
     omega))
 have h := byteLoop hs partC (fun x => ref2_isPart.s0 s (s.size : Int) x) (fun k hk => by
  simp only [ref2_isPart.s0, cb_dec]; rw [if_neg (by omega)]) (fun k hk hp => by
  rw [key k hk, hp]; rfl) (fun k hk hp => by
  rw [key k hk, hp]; rfl) s.data.toList.length 0 (by omega)
 rw [List.drop_zero] at h
 unfold ref2_isPart.f isPartB
 show ob (loopX (fun x => ref2_isPart.s0 s (s.size : Int) x) ((0 : Nat) : Int)) _ = _
 rw [h]
 cases s.data.toList.all partC
 ·rfl
 ·simp only [if_true, ob_s, caseS_r, Bool.true_and, cb_not, cb_dec]
  by_cases h1 : s = bs_ <;> by_cases h2 : s = bs_46 <;> by_cases h3 : s = bs_46_46 <;> simp [h1, h2, h3]
theorem refPath_eq {s : ByteArray} (hs : s.size ≤ 100000000000) : ref2_IsPath.f s = some (isPathB s) := by
 have hb : BIG = 140737488355328 := rfl
 obtain ⟨g1, g2, g3⟩ := split_eq (s := s) hs
 have h := listLoop (l := splitL s) isPartB (fun x => ref2_IsPath.s0 (splitL s) ((splitL s).length : Int) x) (fun k hk => by
  simp only [ref2_IsPath.s0, cb_dec]; rw [if_neg (by omega)]) (fun k hk hp => by
  have hz := g3 _ (List.getElem_mem hk)
  simp only [ref2_IsPath.s0, cb_dec, rd_lt hk, refPart_eq (s := (splitL s)[k]) (by omega), hp, ob_s]; rw [if_pos (by omega), ck_pos (by omega)]; rfl) (fun k hk hp => by
  have hz := g3 _ (List.getElem_mem hk)
  simp only [ref2_IsPath.s0, cb_dec, rd_lt hk, refPart_eq (s := (splitL s)[k]) (by omega), hp, ob_s]; rw [if_pos (by omega), ck_pos (by omega), ck_in (by omega) (by omega)]; rfl) (splitL s).length 0 (by omega)
 rw [List.drop_zero] at h
 unfold ref2_IsPath.f isPathB
 rw [g1, ob_s]
 show ob (loopX (fun x => ref2_IsPath.s0 (splitL s) ((splitL s).length : Int) x) ((0 : Nat) : Int)) _ = _
 rw [h]
 unfold ref2_within.f
 cases (splitL s).all isPartB with
 | true =>
  simp only [if_true, ob_s, caseS_r, cb_dec]
  by_cases h1 : (1 : Int) ≤ ((s.size : Nat) : Int)
  ·rw [if_pos h1, ob_s]
   by_cases h2 : ((s.size : Nat) : Int) ≤ 200
   ·rw [decide_eq_true h2, if_pos (by omega)]
   ·rw [decide_eq_false h2, if_neg (by omega)]
  ·rw [if_neg h1, ob_s, if_neg (by omega)]
 | false =>
  simp only [Bool.false_eq_true, if_false, ob_s, caseS_l]
  split <;> rfl
theorem refCheck_eq {a : ByteArray × ByteArray} (h1 : a.1.size ≤ 100000000000) (h2 : a.2.size ≤ 100000000000) : ref2_CheckLabel.f a = some (labF a) := by
 unfold ref2_CheckLabel.f ref2_isPkg.f labF
 simp only [refPath_eq h1, refPath_eq h2, ob_s, cb_not, cb_dec]
 by_cases e : a.1 = bs_
 ·simp only [e, if_true, true_or, true_and, ob_s, cb_t]
  cases isPathB a.2 <;> rfl
 ·simp only [e, if_false, false_or, ob_s]
  cases isPathB a.1 <;> cases isPathB a.2 <;> rfl
end Go.Proofs.YtahlodpolggeiaaDoor
set_option linter.unusedVariables false
set_option linter.unusedSimpArgs false
namespace Go.Proofs.YtahlodpolggeiaaDoor
open Go Go.Lib Go.Proofs.YtahlodpolggeiaaDoor.Eng
theorem L_47 : bs_47_47.data.toList = [47, 47] := rfl
theorem L_58 : bs_58.data.toList = [58] := rfl
theorem hasP_iff {s p : ByteArray} : hasP s p = true ↔ ∃ t, s.data.toList = p.data.toList ++ t := by
 have hl := size_list s
 have hp := size_list p
 unfold hasP
 rw [Bool.and_eq_true, decide_eq_true_eq, decide_eq_true_eq]
 constructor
 ·rintro ⟨h1, h2⟩
  have h3 := congrArg (fun b : ByteArray => b.data.toList) h2
  simp only [L_ex, List.drop_zero] at h3
  exact ⟨s.data.toList.drop p.size, by rw [← h3, List.take_append_drop]⟩
 ·rintro ⟨t, ht⟩
  have hlen := congrArg List.length ht
  rw [List.length_append] at hlen
  refine ⟨by omega, L_ext ?_⟩
  rw [L_ex, List.drop_zero, ht, List.take_append_of_le_length (by omega), List.take_of_length_le (by omega)]
theorem cutP_yes {s p : ByteArray} {t : List UInt8} (h : s.data.toList = p.data.toList ++ t) : (cutP s p).2 = true ∧ (cutP s p).1.data.toList = t := by
 have hl := size_list s
 have hp := size_list p
 have hlen := congrArg List.length h
 rw [List.length_append] at hlen
 unfold cutP
 rw [if_pos (hasP_iff.2 ⟨t, h⟩)]
 refine ⟨rfl, ?_⟩
 show (s.extract p.size s.size).data.toList = t
 rw [L_ex, List.take_of_length_le (by omega), h, List.drop_append_of_le_length (by omega), List.drop_of_length_le (by omega), List.nil_append]
theorem cutP_no {s p : ByteArray} (h : ¬ ∃ t, s.data.toList = p.data.toList ++ t) : cutP s p = (s, false) := by
 unfold cutP
 rw [if_neg (fun h' => h (hasP_iff.1 h'))]
theorem colon (l : List UInt8) : (Lib.indexByte l 58 = -1 ∧ 58 ∉ l) ∨ ∃ a b, l = a ++ 58 :: b ∧ 58 ∉ a ∧ Lib.indexByte l 58 = (a.length : Int) := by
 have h1 := indexByte_lt l 58
 by_cases h : Lib.indexByte l 58 = -1
 ·refine .inl ⟨h, fun hm => ?_⟩
  obtain ⟨k, hk, he⟩ := List.getElem_of_mem hm
  exact indexByte_none h k (by rw [List.getElem?_eq_getElem hk, he])
 ·right
  obtain ⟨o, ho⟩ : ∃ o : Nat, Lib.indexByte l 58 = o := ⟨(Lib.indexByte l 58).toNat, by omega⟩
  obtain ⟨h2, h3⟩ := indexByte_some ho
  have hol : o < l.length := by omega
  refine ⟨l.take o, l.drop (o + 1), ?_, fun hm => ?_, ?_⟩
  ·have : l[o] = 58 := by rw [List.getElem?_eq_getElem hol] at h2; exact Option.some.inj h2
   rw [← this, ← List.drop_eq_getElem_cons hol, List.take_append_drop]
  ·obtain ⟨k, hk, he⟩ := List.getElem_of_mem hm
   have hko : k < o := by have := hk; simp at this; omega
   rw [List.getElem_take] at he
   exact h3 k hko (by rw [List.getElem?_eq_getElem (by omega), he])
  ·rw [ho, List.length_take]; omega
theorem index_of {a b : List UInt8} (h : 58 ∉ a) : Lib.indexByte (a ++ 58 :: b) 58 = (a.length : Int) := by
 rcases colon (a ++ 58 :: b) with ⟨_, h2⟩ | ⟨a', b', h2, h3, h4⟩
 ·exact absurd (by simp) h2
 ·have : a.length = a'.length := by
   have key : ∀ (a a' b b' : List UInt8), 58 ∉ a → 58 ∉ a' → a ++ 58 :: b = a' ++ 58 :: b' → a.length = a'.length := by
    intro a
    induction a with
    | nil =>
     intro a' b b' _ h2 h3
     cases a' with
     | nil => rfl
     | cons x a' =>
      injection h3 with e _
      exact absurd (e ▸ List.mem_cons_self ..) h2
    | cons x a ih =>
     intro a' b b' h1 h2 h3
     cases a' with
     | nil =>
      injection h3 with e _
      exact absurd (e ▸ List.mem_cons_self ..) h1
     | cons y a' =>
      injection h3 with _ e
      have := ih a' b b' (fun h => h1 (List.mem_cons_of_mem _ h)) (fun h => h2 (List.mem_cons_of_mem _ h)) e
      simp [this]
   exact key a a' b b' h h3 h2
  rw [h4, this]
theorem cut_yes {s : ByteArray} {a b : List UInt8} (hs : s.data.toList = a ++ 58 :: b) (h : 58 ∉ a) : (cut58 s).1.data.toList = a ∧ (cut58 s).2.1.data.toList = b ∧ (cut58 s).2.2 = true := by
 have hl := size_list s
 have hi : Lib.indexByte s.data.toList 58 = (a.length : Int) := by rw [hs]; exact index_of h
 have hlen := congrArg List.length hs
 rw [List.length_append, List.length_cons] at hlen
 unfold cut58
 rw [if_pos (by omega), hi, Int.toNat_natCast]
 refine ⟨?_, ?_, rfl⟩
 ·rw [L_ex, List.drop_zero, hs, List.take_append_of_le_length (Nat.le_refl _), List.take_of_length_le (Nat.le_refl _)]
 ·show (s.extract (a.length + 1) s.size).data.toList = b
  rw [L_ex, List.take_of_length_le (by omega), hs]
  have : a ++ 58 :: b = (a ++ [58]) ++ b := by simp
  rw [this, List.drop_append_of_le_length (by simp), List.drop_of_length_le (by simp), List.nil_append]
theorem cut_no {s : ByteArray} (h : 58 ∉ s.data.toList) : cut58 s = (s, bs_, false) := by
 rcases colon s.data.toList with ⟨h1, _⟩ | ⟨a, b, h1, _⟩
 ·unfold cut58
  rw [h1, if_neg (by decide)]
 ·exact absurd (by rw [h1]; simp) h
def IsLab (s : ByteArray) : Prop := ∃ x y : ByteArray, s.data.toList = [47, 47] ++ (x.data.toList ++ 58 :: y.data.toList) ∧ 58 ∉ x.data.toList ∧ labF (x, y) = 0
theorem whole_iff {s : ByteArray} (hs : s.size ≤ BIG) : ∃ b, script_IsWhole.f s = some b ∧ (b = true ↔ IsLab s) := by
 have hb : BIG = 140737488355328 := rfl
 have hl := size_list s
 have hw : ∀ a : ByteArray × ByteArray, a.1.size ≤ s.size → a.2.size ≤ s.size → script_Whole.f a = some (((bs_47_47 ++ a.1) ++ bs_58) ++ a.2) := fun a h1 h2 => by
  unfold script_Whole.f
  have e1 : bs_47_47.size = 2 := rfl
  have e2 : bs_58.size = 1 := rfl
  simp only [ByteArray.size_append, e1, e2]
  rw [ck_pos (by omega), ck_pos (by omega), ck_pos (by omega)]
 have hLw : ∀ a b : ByteArray, (((bs_47_47 ++ a) ++ bs_58) ++ b).data.toList = [47, 47] ++ (a.data.toList ++ 58 :: b.data.toList) := fun a b => by
  rw [L_app, L_app, L_app, L_47, L_58]; simp
 unfold script_IsWhole.f script_ReadLabel.f
 simp only [decide_true, Bool.not_true, cb_f, cutPrefix_eq, ob_s]
 by_cases hp : ∃ t, s.data.toList = bs_47_47.data.toList ++ t
 ·obtain ⟨t, ht⟩ := hp
  obtain ⟨c1, c2⟩ := cutP_yes ht
  have hsz : (cutP s bs_47_47).1.size ≤ s.size := by
   rw [size_list, c2]
   have := congrArg List.length ht
   rw [List.length_append] at this
   omega
  rw [L_47] at ht
  simp only [c1, cb_t, cut_eq (s := (cutP s bs_47_47).1) (by omega), ob_s]
  rcases colon (cutP s bs_47_47).1.data.toList with ⟨_, hno⟩ | ⟨a, b, h1, h2, _⟩
  ·rw [cut_no hno]
   obtain ⟨r, r1, r2⟩ := last_some (s := (cutP s bs_47_47).1) (by omega)
   simp only [Bool.not_false, cb_t, r1, ob_s, checkLabel_eq, cb_not, cb_dec]
   refine ⟨false, ?_, fun h => (by cases h), fun ⟨x, y, h3, _, _⟩ => ?_⟩
   ·by_cases h0 : labF ((cutP s bs_47_47).1, r) = 0
    ·rw [if_pos h0]
     simp only [ob_s, if_true]
     rw [hw _ hsz (by show r.size ≤ _; omega), ob_s]
     refine congrArg some (decide_eq_false fun e => ?_)
     have e2 := congrArg (fun b : ByteArray => b.data.toList) e
     simp only [hLw] at e2
     rw [ht, c2] at e2
     have := congrArg List.length e2
     simp at this
    ·rw [if_neg h0]
     simp only [ob_s]
     rw [if_neg (by decide)]
   ·rw [ht, List.append_cancel_left_eq] at h3
    rw [c2, h3] at hno
    exact (hno (by simp)).elim
  ·obtain ⟨e1, e2, e3⟩ := cut_yes h1 h2
   have hs1 : (cut58 (cutP s bs_47_47).1).1.size ≤ s.size ∧ (cut58 (cutP s bs_47_47).1).2.1.size ≤ s.size := by
    have := congrArg List.length h1
    rw [List.length_append, List.length_cons] at this
    have e4 := size_list (cutP s bs_47_47).1
    rw [size_list, size_list (cut58 (cutP s bs_47_47).1).2.1, e1, e2]
    omega
   simp only [e3, Bool.not_true, cb_f, checkLabel_eq, ob_s, cb_not, cb_dec]
   by_cases h0 : labF ((cut58 (cutP s bs_47_47).1).1, (cut58 (cutP s bs_47_47).1).2.1) = 0
   ·rw [if_pos h0]
    simp only [ob_s, if_true]
    rw [hw _ hs1.1 hs1.2, ob_s]
    refine ⟨true, congrArg some (decide_eq_true (L_ext ?_)), fun _ => ⟨_, _, ?_, ?_, h0⟩, fun _ => rfl⟩
    ·rw [hLw, e1, e2, ← h1, c2, ht]
    ·rw [e1, e2, ← h1, c2, ht]
    ·rw [e1]; exact h2
   ·rw [if_neg h0]
    simp only [ob_s]
    rw [if_neg (by decide)]
    refine ⟨false, rfl, fun h => (by cases h), fun ⟨x, y, h3, h4, h5⟩ => ?_⟩
    rw [ht, List.append_cancel_left_eq, ← c2] at h3
    obtain ⟨f1, f2, _⟩ := cut_yes h3 h4
    rw [L_ext f1, L_ext f2] at h0
    exact absurd h5 h0
 ·have hnl : ¬ IsLab s := fun ⟨x, y, h3, _, _⟩ => hp ⟨_, h3⟩
  rw [cutP_no hp]
  simp only [cb_f]
  have fin : ∀ a : ByteArray × ByteArray, a.1.size ≤ s.size → a.2.size ≤ s.size → (ob (ob (script_CheckLabel.f a) fun r16 => (cb (!decide (r16 = (0 : Int))) (some ((bs_, bs_), (10 : Int))) (some (a, (0 : Int))))) fun r1 => (cb (decide (r1.2 = (0 : Int))) (ob (script_Whole.f r1.1) fun r2 => (some (decide (r2 = s)))) (some false))) = some false := fun a h1 h2 => by
   rw [checkLabel_eq, ob_s, cb_not, cb_dec]
   by_cases h0 : labF a = 0
   ·rw [if_pos h0]
    simp only [ob_s, cb_dec, if_true]
    rw [hw a h1 h2, ob_s]
    refine congrArg some (decide_eq_false fun e => ?_)
    have e2 := congrArg (fun b : ByteArray => b.data.toList) e
    simp only [hLw] at e2
    exact hp ⟨_, e2.symm⟩
   ·rw [if_neg h0]
    simp only [ob_s, cb_dec]
    rw [if_neg (by decide)]
  refine ⟨false, ?_, fun h => (by cases h), fun h => absurd h hnl⟩
  by_cases hq : ∃ t, s.data.toList = bs_58.data.toList ++ t
  ·obtain ⟨t, ht⟩ := hq
   obtain ⟨c1, c2⟩ := cutP_yes ht
   rw [c1, cb_t]
   refine fin (bs_, (cutP s bs_58).1) (Nat.zero_le _) ?_
   show (cutP s bs_58).1.size ≤ _
   rw [size_list, c2]
   have := congrArg List.length ht
   rw [List.length_append] at this
   omega
  ·rw [cutP_no hq, cb_f]
   exact fin (bs_, bs_) (Nat.zero_le _) (Nat.zero_le _)
theorem label_iff {s : ByteArray} (hs : s.size ≤ 100000000000) : ∃ b, ref11_isLabel.f s = some b ∧ (b = true ↔ IsLab s) := by
 have hb : BIG = 140737488355328 := rfl
 have hl := size_list s
 have hLw : ∀ a b : ByteArray, (((bs_47_47 ++ a) ++ bs_58) ++ b).data.toList = [47, 47] ++ (a.data.toList ++ 58 :: b.data.toList) := fun a b => by
  rw [L_app, L_app, L_app, L_47, L_58]; simp
 have e1 : bs_47_47.size = 2 := rfl
 have e2 : bs_58.size = 1 := rfl
 have hpkg : ref2_isPkg.f bs_ = some true := rfl
 have lastE : ∀ x : ByteArray, ref2_last.f x = script_last.f x := fun x => rfl
 have fin : ∀ a : ByteArray × ByteArray, a.1.size ≤ s.size → a.2.size ≤ s.size → (ob (ob (ref2_CheckLabel.f a) fun r4 => (cb (!decide (r4 = (0 : Int))) (some ((bs_, bs_), (10 : Int))) (some (a, (0 : Int))))) fun r1 => (cb (decide (r1.2 = (0 : Int))) (ck (((ByteArray.size bs_47_47 + ByteArray.size r1.1.1 : Nat) : Int) ≤ 9223372036854775807) (ck (((ByteArray.size (bs_47_47 ++ r1.1.1) + ByteArray.size bs_58 : Nat) : Int) ≤ 9223372036854775807) (let y2 : ByteArray := ((bs_47_47 ++ r1.1.1) ++ bs_58); (ck (((ByteArray.size y2 + ByteArray.size r1.1.2 : Nat) : Int) ≤ 9223372036854775807) (some (decide (s = (y2 ++ r1.1.2)))))))) (some false))) = some (decide (labF a = 0) && decide (s = ((bs_47_47 ++ a.1) ++ bs_58) ++ a.2)) := fun a h1 h2 => by
  rw [refCheck_eq (by omega) (by omega), ob_s, cb_not, cb_dec]
  by_cases h0 : labF a = 0
  ·rw [if_pos h0, decide_eq_true h0, Bool.true_and]
   simp only [ob_s, cb_dec, if_true, ByteArray.size_append, e1, e2]
   rw [ck_pos (by omega), ck_pos (by omega), ck_pos (by omega)]
  ·rw [if_neg h0, decide_eq_false h0, Bool.false_and]
   simp only [ob_s, cb_dec]
   rw [if_neg (by decide)]
 have err : (ob (some ((bs_, bs_), (10 : Int))) fun r1 => (cb (decide (r1.2 = (0 : Int))) (ck (((ByteArray.size bs_47_47 + ByteArray.size r1.1.1 : Nat) : Int) ≤ 9223372036854775807) (ck (((ByteArray.size (bs_47_47 ++ r1.1.1) + ByteArray.size bs_58 : Nat) : Int) ≤ 9223372036854775807) (let y2 : ByteArray := ((bs_47_47 ++ r1.1.1) ++ bs_58); (ck (((ByteArray.size y2 + ByteArray.size r1.1.2 : Nat) : Int) ≤ 9223372036854775807) (some (decide (s = (y2 ++ r1.1.2)))))))) (some false))) = some false := by
  simp only [ob_s, cb_dec]
  rw [if_neg (by decide)]
 unfold ref11_isLabel.f ref2_ReadLabel.f
 simp only [hpkg, ob_s, Bool.not_true, cb_f, cut_eq (s := s) (by omega), cutPrefix_eq]
 rcases colon s.data.toList with ⟨_, hno⟩ | ⟨a, b, h1, h2, _⟩
 ·
  have hnl : ¬ IsLab s := fun ⟨x, y, h3, _, _⟩ => hno (by rw [h3]; simp)
  rw [cut_no hno]
  simp only [cb_f]
  refine ⟨false, ?_, fun h => (by cases h), fun h => absurd h hnl⟩
  by_cases hp : ∃ t, s.data.toList = bs_47_47.data.toList ++ t
  ·obtain ⟨t, ht⟩ := hp
   obtain ⟨c1, c2⟩ := cutP_yes ht
   have hsz : (cutP s bs_47_47).1.size ≤ s.size := by
    rw [size_list, c2]
    have := congrArg List.length ht
    rw [List.length_append] at this
    omega
   obtain ⟨r, r1, r2⟩ := last_some (s := (cutP s bs_47_47).1) (by omega)
   simp only [c1, cb_t, cb_not, cb_dec, lastE, r1, ob_s]
   by_cases h0 : (cutP s bs_47_47).1 = bs_
   ·rw [if_pos h0]; exact err
   ·rw [if_neg h0]
    have := fin ((cutP s bs_47_47).1, r) hsz (by show r.size ≤ _; omega)
    simp only [cb_not, cb_dec] at this
    rw [this]
    refine congrArg some ?_
    rw [Bool.and_eq_false_iff]
    right
    refine decide_eq_false fun e => ?_
    have e2 := congrArg (fun b : ByteArray => b.data.toList) e
    simp only [hLw] at e2
    exact hno (by rw [e2]; simp)
  ·rw [cutP_no hp]
   simp only [cb_f]
   exact err
 ·obtain ⟨f1, f2, f3⟩ := cut_yes h1 h2
  have hla : (cut58 s).1.size ≤ s.size ∧ (cut58 s).2.1.size ≤ s.size := by
   have := congrArg List.length h1
   rw [List.length_append, List.length_cons] at this
   rw [size_list (cut58 s).1, size_list (cut58 s).2.1, f1, f2]
   omega
  rw [f3]
  simp only [cb_t, cb_dec]
  by_cases h0 : (cut58 s).1 = bs_
  ·rw [if_pos h0]
   have ha : a = [] := by rw [← f1, h0]; rfl
   subst ha
   have hnl : ¬ IsLab s := fun ⟨x, y, h3, _, _⟩ => by
    rw [h1] at h3
    injection h3 with e _
    cases e
   have := fin (bs_, (cut58 s).2.1) (Nat.zero_le _) hla.2
   simp only [cb_not, cb_dec] at this ⊢
   rw [this]
   refine ⟨_, rfl, fun h => ?_, fun h => absurd h hnl⟩
   rw [Bool.and_eq_true, decide_eq_true_eq, decide_eq_true_eq] at h
   have e2 := congrArg (fun b : ByteArray => b.data.toList) h.2
   simp only [hLw] at e2
   rw [h1] at e2
   injection e2 with e _
   cases e
  ·rw [if_neg h0]
   by_cases hp : ∃ t, (cut58 s).1.data.toList = bs_47_47.data.toList ++ t
   ·obtain ⟨t, ht⟩ := hp
    obtain ⟨c1, c2⟩ := cutP_yes ht
    have hsz : (cutP (cut58 s).1 bs_47_47).1.size ≤ s.size := by
     rw [size_list, c2]
     have := congrArg List.length ht
     rw [List.length_append, ← size_list] at this
     omega
    simp only [c1, cb_t]
    have := fin ((cutP (cut58 s).1 bs_47_47).1, (cut58 s).2.1) hsz hla.2
    simp only [cb_not, cb_dec] at this ⊢
    rw [this]
    rw [f1, L_47] at ht
    have hsl : s.data.toList = [47, 47] ++ (t ++ 58 :: b) := by rw [h1, ht]; simp
    refine ⟨_, rfl, fun h => ?_, fun ⟨x, y, h3, h4, h5⟩ => ?_⟩
    ·rw [Bool.and_eq_true, decide_eq_true_eq, decide_eq_true_eq] at h
     refine ⟨_, _, ?_, ?_, h.1⟩
     ·rw [c2, f2]; exact hsl
     ·rw [c2]; exact fun hm => h2 (by rw [ht]; exact List.mem_append_right _ hm)
    ·rw [hsl, List.append_cancel_left_eq] at h3
     have ht58 : 58 ∉ t := fun hm => h2 (by rw [ht]; exact List.mem_append_right _ hm)
     have hlen : (t.length : Int) = (x.data.toList.length : Int) := by
      rw [← index_of (b := b) ht58, h3, index_of h4]
     obtain ⟨g1, g2⟩ := List.append_inj h3 (by omega)
     injection g2 with _ g2
     have ex : (cutP (cut58 s).1 bs_47_47).1 = x := L_ext (by rw [c2, g1])
     have ey : (cut58 s).2.1 = y := L_ext (by rw [f2, g2])
     rw [ex, ey, decide_eq_true h5, Bool.true_and]
     refine decide_eq_true (L_ext ?_)
     rw [hLw, hsl, g1, g2]
   ·rw [cutP_no hp]
    simp only [cb_f]
    refine ⟨false, err, fun h => (by cases h), fun ⟨x, y, h3, h4, _⟩ => absurd ⟨x.data.toList, ?_⟩ hp⟩
    rw [f1, L_47]
    have h5 : a ++ 58 :: b = ([47, 47] ++ x.data.toList) ++ 58 :: y.data.toList := by rw [← h1, h3]; simp
    have h58 : (58 : UInt8) ∉ [47, 47] ++ x.data.toList := fun hm => by
     rcases List.mem_append.1 hm with h | h
     ·revert h; decide
     ·exact h4 h
    have hlen : (a.length : Int) = (([47, 47] ++ x.data.toList).length : Int) := by
     rw [← index_of (b := b) h2, h5, index_of h58]
    exact (List.append_inj h5 (by omega)).1
theorem label_eq {s : ByteArray} (hs : s.size ≤ 100000000000) : ref11_isLabel.f s = script_IsWhole.f s ∧ ∃ b, script_IsWhole.f s = some b := by
 have hb : BIG = 140737488355328 := rfl
 obtain ⟨b1, h1, h2⟩ := whole_iff (s := s) (by omega)
 obtain ⟨b2, h3, h4⟩ := label_iff hs
 have : b1 = b2 := by rw [Bool.eq_iff_iff, h2, h4]
 rw [h1, h3, this]
 exact ⟨rfl, _, rfl⟩
end Go.Proofs.YtahlodpolggeiaaDoor
set_option linter.unusedVariables false
set_option linter.unusedSimpArgs false
namespace Go.Proofs.YtahlodpolggeiaaDoor
open Go Go.Lib Go.Proofs.YtahlodpolggeiaaDoor.Eng
abbrev Wr := ByteArray × (ByteArray × ((List ByteArray) × (Int × Int)))
theorem ck_neg {β : Type} {c : Prop} {a : Option β} (h : ¬ c) : ck c a = none := by unfold ck; rw [if_neg h]
theorem prefix_eq (s p : ByteArray) : strings_HasPrefix.f s p = some (hasP s p) := by
 unfold strings_HasPrefix.f
 rw [hasPrefix_eq]; rfl
theorem hasP_ne {s : ByteArray} (h : hasP s bs_47_47 = true) : s ≠ bs_ := fun e => by
 rw [e] at h
 exact absurd h (by decide)
theorem prefStep {w : Wr} (hw : ∀ y ∈ w.2.2.1, y.size ≤ BIG) (x : Int) : trust_checkWriter.s0 w w.2.2.1 (w.2.2.1.length : Int) x = ref11_checkPrefixes.s0 w.2.2.1 w.2.2.1 (w.2.2.1.length : Int) x := by
 unfold trust_checkWriter.s0 ref11_checkPrefixes.s0
 simp only [cb_dec]
 by_cases h1 : x < (w.2.2.1.length : Int)
 ·rw [if_pos h1, if_pos h1]
  by_cases h2 : 0 ≤ x
  ·obtain ⟨k, rfl⟩ : ∃ k : Nat, x = k := ⟨x.toNat, by omega⟩
   have hk : k < w.2.2.1.length := by omega
   have c0 : 0 ≤ (k : Int) ∧ (k : Int) < (w.2.2.1.length : Int) := ⟨h2, h1⟩
   simp only [ck_pos c0, rd_lt hk, prefix_eq, ob_s, isPlain_eq, isRow_eq (hw _ (List.getElem_mem hk))]
   cases hp : hasP w.2.2.1[k] bs_47_47 with
   | false => rfl
   | true => rw [decide_eq_false (hasP_ne hp), Bool.not_false, Bool.and_true]
  ·have c0 : ¬ (0 ≤ x ∧ x < (w.2.2.1.length : Int)) := fun h => h2 h.1
   simp only [ck_neg c0]
 ·rw [if_neg h1, if_neg h1]
theorem prefLoop {l : List ByteArray} (hl : l.length ≤ 1000) (hw : ∀ y ∈ l, y.size ≤ BIG) : ∀ (n k : Nat), l.length - k = n → ∃ r, ref11_checkPrefixes.l0 l l (l.length : Int) (k : Int) = some r ∧ (r = .inr () ∨ r = .inl 3 ∨ r = .inl 8) := by
 intro n
 induction n with
 | zero =>
  intro k hn
  refine ⟨.inr (), loopX_done ?_, .inl rfl⟩
  simp only [ref11_checkPrefixes.s0, cb_dec]
  rw [if_neg (by omega)]
 | succ n ih =>
  intro k hn
  have hk : k < l.length := by omega
  have c0 : 0 ≤ (k : Int) ∧ (k : Int) < (l.length : Int) := by omega
  have c1 : InR ((k : Int) + 1) := ⟨by omega, by omega⟩
  obtain ⟨r, r1, r2⟩ := ih (k + 1) (by omega)
  have hnext : ref11_checkPrefixes.s0 l l (l.length : Int) (k : Int) = some (.inl ((k : Int) + 1)) → ∃ r, ref11_checkPrefixes.l0 l l (l.length : Int) (k : Int) = some r ∧ (r = .inr () ∨ r = .inl 3 ∨ r = .inl 8) := fun h => ⟨r, (loopX_next h).trans r1, r2⟩
  have hstop : ∀ f : Int, (f = 3 ∨ f = 8) → ref11_checkPrefixes.s0 l l (l.length : Int) (k : Int) = some (.inr (.inl f)) → ∃ r, ref11_checkPrefixes.l0 l l (l.length : Int) (k : Int) = some r ∧ (r = .inr () ∨ r = .inl 3 ∨ r = .inl 8) := fun f hf h => ⟨.inl f, loopX_done h, .inr (hf.imp (fun e => by rw [e]) (fun e => by rw [e]))⟩
  have hs : ref11_checkPrefixes.s0 l l (l.length : Int) (k : Int) = (cb (!hasP l[k] bs_47_47) (some (.inr (.inl 3))) (cb (decide ((1000 : Int) < ((l[k].size : Nat) : Int))) (some (.inr (.inl 3))) (cb (!(plainB l[k] && !decide (l[k] = bs_))) (some (.inr (.inl 3))) (cb (decide ((0 : Int) < (k : Int))) (ck (InR ((k : Int) - 1)) (ck (0 ≤ (k : Int) - 1 ∧ (k : Int) - 1 < (l.length : Int)) (cb (bless l[k] (rd ByteArray.empty l ((k : Int) - 1)) || decide (l[k] = (rd ByteArray.empty l ((k : Int) - 1)))) (some (.inr (.inl 8))) (some (.inl ((k : Int) + 1)))))) (some (.inl ((k : Int) + 1))))))) := by
   simp only [ref11_checkPrefixes.s0, rd_lt hk, prefix_eq, isRow_eq (hw _ (List.getElem_mem hk)), ob_s, ck_pos c0, ck_pos c1]
   rw [cb_dec, if_pos c0.2]
  cases b1 : hasP l[k] bs_47_47 with
  | false => exact hstop 3 (.inl rfl) (by rw [hs, b1]; rfl)
  | true =>
   by_cases b2 : (1000 : Int) < ((l[k].size : Nat) : Int)
   ·exact hstop 3 (.inl rfl) (by rw [hs, b1, decide_eq_true b2]; rfl)
   ·cases b3 : (plainB l[k] && !decide (l[k] = bs_)) with
    | false => exact hstop 3 (.inl rfl) (by rw [hs, b1, decide_eq_false b2, b3]; rfl)
    | true =>
     by_cases b4 : (0 : Int) < (k : Int)
     ·cases b5 : (bless l[k] (rd ByteArray.empty l ((k : Int) - 1)) || decide (l[k] = (rd ByteArray.empty l ((k : Int) - 1)))) with
      | true => exact hstop 8 (.inr rfl) (by
        rw [hs, b1, decide_eq_false b2, b3, decide_eq_true b4, b5]
        simp only [Bool.not_true, cb_f, cb_t]
        rw [ck_in (by omega) (by omega), ck_pos (by omega)])
      | false => exact hnext (by
        rw [hs, b1, decide_eq_false b2, b3, decide_eq_true b4, b5]
        simp only [Bool.not_true, cb_f, cb_t]
        rw [ck_in (by omega) (by omega), ck_pos (by omega)])
     ·exact hnext (by rw [hs, b1, decide_eq_false b2, b3, decide_eq_false b4]; rfl)
theorem prefs {w : Wr} (hw : ∀ y ∈ w.2.2.1, y.size ≤ BIG) : ∃ r : Int, ref11_checkPrefixes.f w.2.2.1 = some r ∧ ∀ X : Option Int, (cb (decide ((30 : Int) < ((w.2.2.1.length : Nat) : Int))) (some (2 : Int)) (ob (trust_checkWriter.l0 w w.2.2.1 ((w.2.2.1.length : Nat) : Int) (0 : Int)) fun r15 => (caseS r15 (fun a16 => (some a16)) (fun b17 => X)))) = if r = 0 then X else some r := by
 have hloop : trust_checkWriter.l0 w w.2.2.1 ((w.2.2.1.length : Nat) : Int) 0 = ref11_checkPrefixes.l0 w.2.2.1 w.2.2.1 ((w.2.2.1.length : Nat) : Int) 0 := by
  unfold trust_checkWriter.l0 ref11_checkPrefixes.l0
  congr 1
  funext x
  exact prefStep hw x
 unfold ref11_checkPrefixes.f
 rw [hloop]
 simp only [cb_dec]
 by_cases h1 : (30 : Int) < ((w.2.2.1.length : Nat) : Int)
 ·rw [if_pos h1]
  exact ⟨2, rfl, fun X => by rw [if_pos h1, if_neg (by decide)]⟩
 ·rw [if_neg h1]
  obtain ⟨r, r1, r2⟩ := prefLoop (l := w.2.2.1) (by omega) hw w.2.2.1.length 0 (by omega)
  rw [show ((0 : Nat) : Int) = 0 from rfl] at r1
  rw [r1]
  rcases r2 with rfl | rfl | rfl
  ·exact ⟨0, rfl, fun X => by rw [if_neg h1, if_pos rfl]; rfl⟩
  ·exact ⟨3, rfl, fun X => by rw [if_neg h1, if_neg (by decide)]; rfl⟩
  ·exact ⟨8, rfl, fun X => by rw [if_neg h1, if_neg (by decide)]; rfl⟩
def szW (w : Wr) : Prop := w.1.size ≤ 100000000000 ∧ w.2.1.size ≤ 100000000000 ∧ ∀ y ∈ w.2.2.1, y.size ≤ 100000000000
theorem within_eq (a b c : Int) : trust_within.f a b c = some (decide (b ≤ a ∧ a ≤ c)) := by
 unfold trust_within.f
 rw [cb_dec]
 by_cases h : b ≤ a <;> simp [h]
theorem withinR_eq (a b c : Int) : ref11_within.f a b c = some (decide (b ≤ a ∧ a ≤ c)) := within_eq a b c
theorem secret_some {s : ByteArray} (hs : s.size ≤ BIG) : ∃ b, ref11_isSecret.f s = some b := by
 unfold ref11_isSecret.f
 rw [isRow_eq hs, ob_s]
 cases (plainB s && !decide (s = bs_)) <;> exact ⟨_, rfl⟩
theorem writerStep {l : List Wr} (hl : l.length ≤ 1000) (hs : ∀ w ∈ l, szW w) (x : Int) : trust_CheckWriters.s0 l l (l.length : Int) x = ref11_CheckWriters.s0 l l (l.length : Int) x := by
 have hb : BIG = 140737488355328 := rfl
 unfold trust_CheckWriters.s0 ref11_CheckWriters.s0
 simp only [cb_dec]
 by_cases h1 : x < (l.length : Int)
 ·rw [if_pos h1, if_pos h1]
  by_cases h2 : 0 ≤ x
  ·obtain ⟨k, rfl⟩ : ∃ k : Nat, x = k := ⟨x.toNat, by omega⟩
   have hk : k < l.length := by omega
   have hw := hs _ (List.getElem_mem hk)
   obtain ⟨r, r1, r2⟩ := prefs (w := l[k]) (fun y hy => by have := hw.2.2 y hy; omega)
   obtain ⟨b, b1⟩ := secret_some (s := l[k].2.1) (by have := hw.2.1; omega)
   have c0 : 0 ≤ (k : Int) ∧ (k : Int) < (l.length : Int) := ⟨h2, h1⟩
   simp only [ck_pos c0, rd_lt hk]
   unfold trust_checkWriter.f
   simp only [isWord_eq, isWord_ref, isSecret_eq (s := l[k].2.1) (by have := hw.2.1; omega), b1, ob_s, r1, r2, within_eq, withinR_eq]
   cases wordB l[k].1 with
   | false => rfl
   | true =>
    cases b with
    | false => rfl
    | true =>
     simp only [Bool.not_true, cb_f]
     by_cases h3 : r = 0
     ·rw [if_pos h3, decide_eq_true h3]
      simp only [Bool.not_true, cb_f]
      cases decide (0 ≤ l[k].2.2.2.1 ∧ l[k].2.2.2.1 ≤ 1000000000) with
      | false => rfl
      | true =>
       cases decide (0 ≤ l[k].2.2.2.2 ∧ l[k].2.2.2.2 ≤ 1000000001) with
       | false => rfl
       | true =>
        simp only [Bool.not_true, cb_f, cb_dec]
        by_cases h4 : l[k].2.2.2.2 ≤ l[k].2.2.2.1
        ·rw [if_pos h4, if_pos h4]; rfl
        ·rw [if_neg h4, if_neg h4]; rfl
     ·rw [if_neg h3, decide_eq_false h3, ob_s, decide_eq_false h3]
      rfl
  ·have c0 : ¬ (0 ≤ x ∧ x < (l.length : Int)) := fun h => h2 h.1
   simp only [ck_neg c0]
 ·rw [if_neg h1, if_neg h1]
theorem check_eq {l : List Wr} (hs : ∀ w ∈ l, szW w) : trust_CheckWriters.f l = ref11_CheckWriters.f l := by
 unfold trust_CheckWriters.f ref11_CheckWriters.f
 simp only [cb_dec]
 by_cases h1 : (50 : Int) < ((l.length : Nat) : Int)
 ·rw [if_pos h1, if_pos h1]
 ·rw [if_neg h1, if_neg h1]
  have : trust_CheckWriters.l0 l l ((l.length : Nat) : Int) 0 = ref11_CheckWriters.l0 l l ((l.length : Nat) : Int) 0 := by
   unfold trust_CheckWriters.l0 ref11_CheckWriters.l0
   congr 1
   funext x
   exact writerStep (by omega) hs x
  rw [this]
end Go.Proofs.YtahlodpolggeiaaDoor
set_option linter.unusedVariables false
set_option linter.unusedSimpArgs false
namespace Go.Proofs.YtahlodpolggeiaaDoor
open Go Go.Lib Go.Proofs.YtahlodpolggeiaaDoor.Eng
def labs (g : List Wr) : List ByteArray := g.map (·.1)
theorem labs_get {g : List Wr} {k : Nat} (h : k < g.length) : (labs g)[k]'(by unfold labs; simpa using h) = g[k].1 := by simp [labs]
theorem find1_eq (n : Wr) (s : ByteArray) : trust_find_1.f n s = some (cmpS n.1 s) := rfl
theorem half {a b : Nat} (ha : a ≤ 100000000000) (hb : b ≤ 100000000000) : IntKind.i64.wrap (Int.fdiv (IntKind.u64.wrap ((a : Int) + (b : Int))) (2 ^ min (Int.toNat (1 : Int)) (IntKind.bits .u64))) = ((a + b) / 2 : Nat) := by
 have e1 : IntKind.u64.wrap ((a : Int) + (b : Int)) = ((a + b : Nat) : Int) := by
  simp only [IntKind.wrap, IntKind.bits, IntKind.signed, Bool.false_and, Bool.false_eq_true, if_false]
  have e : (2 : Int) ^ 64 = 18446744073709551616 := by decide
  rw [e]; omega
 have e2 : (2 : Int) ^ min (Int.toNat (1 : Int)) (IntKind.bits .u64) = 2 := by decide
 rw [e1, e2]
 have e3 : Int.fdiv ((a + b : Nat) : Int) 2 = ((a + b) / 2 : Nat) := by
  rw [Int.fdiv_eq_ediv_of_nonneg _ (by decide)]; omega
 rw [e3]
 exact IntWalk.i64_in _ ⟨by omega, by omega⟩
theorem find_ok {g : List Wr} (hl : g.length ≤ 1000) (hr : Rising (labs g)) (s : ByteArray) : ∃ r, trust_find.f g s = some r ∧ ((r.2 = false ∧ ∀ k : Nat, ∀ h : k < g.length, g[k].1 ≠ s) ∨ ∃ k : Nat, ∃ h : k < g.length, r = (g[k], true) ∧ g[k].1 = s) := by
 have go : ∀ (n a b : Nat), b - a = n → a ≤ b → b ≤ g.length → (∀ k : Nat, ∀ h : k < g.length, k < a → cmpS g[k].1 s < 0) → (∀ k : Nat, ∀ h : k < g.length, b ≤ k → ¬ cmpS g[k].1 s < 0) →
   ∃ c : Nat, slices_BinarySearchFunc_api_Writer_api_Writer_string_f39.l0 g s (a : Int) (b : Int) = some (c : Int) ∧ c ≤ g.length ∧ (∀ k : Nat, ∀ h : k < g.length, k < c → cmpS g[k].1 s < 0) ∧ (∀ k : Nat, ∀ h : k < g.length, c ≤ k → ¬ cmpS g[k].1 s < 0) := by
  intro n
  induction n using Nat.strongRecOn with
  | _ n ih =>
   intro a b hn hab hb h1 h2
   rcases Nat.lt_or_ge a b with hlt | hge
   ·have hm : (a + b) / 2 < g.length := by omega
    have hh := half (a := a) (b := b) (by omega) (by omega)
    have hmono : ∀ i j : Nat, ∀ hi : i < g.length, ∀ hj : j < g.length, i < j → cmpS g[i].1 g[j].1 < 0 := fun i j hi hj hij => by
     have := hr i j (by unfold labs; simpa using hj) hij
     rw [labs_get hi, labs_get hj] at this
     exact this
    by_cases hc : cmpS g[(a + b) / 2].1 s < 0
    ·obtain ⟨c, h3, h4⟩ := ih (b - ((a + b) / 2 + 1)) (by omega) ((a + b) / 2 + 1) b rfl (by omega) hb (fun k hk hka => by
      rcases Nat.lt_or_ge k ((a + b) / 2) with h | h
      ·exact cmpS_trans (hmono k _ hk hm h) hc
      ·have : k = (a + b) / 2 := by omega
       subst this; exact hc) h2
     refine ⟨c, (loopX_next ?_).trans h3, h4⟩
     simp only [slices_BinarySearchFunc_api_Writer_api_Writer_string_f39.s0, cb_dec, hh, rd_lt hm, find1_eq, ob_s]
     rw [if_pos (by omega), ck_in (by omega) (by omega), ck_pos (by omega), if_pos hc, ck_in (by omega) (by omega)]
     rfl
    ·obtain ⟨c, h3, h4⟩ := ih ((a + b) / 2 - a) (by omega) a ((a + b) / 2) rfl (by omega) (by omega) h1 (fun k hk hka => by
      intro h
      rcases Nat.lt_or_ge ((a + b) / 2) k with h5 | h5
      ·exact hc (cmpS_trans (hmono _ k hm hk h5) h)
      ·have : k = (a + b) / 2 := by omega
       subst this; exact hc h)
     refine ⟨c, (loopX_next ?_).trans h3, h4⟩
     simp only [slices_BinarySearchFunc_api_Writer_api_Writer_string_f39.s0, cb_dec, hh, rd_lt hm, find1_eq, ob_s]
     rw [if_pos (by omega), ck_in (by omega) (by omega), ck_pos (by omega), if_neg hc]
   ·have e : a = b := by omega
    subst e
    refine ⟨a, loopX_done ?_, hb, h1, h2⟩
    simp only [slices_BinarySearchFunc_api_Writer_api_Writer_string_f39.s0, cb_dec]
    rw [if_neg (by omega)]
 obtain ⟨c, h1, h2, h3, h4⟩ := go _ 0 g.length rfl (Nat.zero_le _) (Nat.le_refl _) (fun k _ h => absurd h (Nat.not_lt_zero _)) (fun k hk h => by omega)
 rw [show ((0 : Nat) : Int) = 0 from rfl] at h1
 unfold trust_find.f slices_BinarySearchFunc_api_Writer_api_Writer_string_f39.f
 simp only [h1, ob_s, cb_dec]
 by_cases hc : c < g.length
 ·rw [if_pos (by omega), ck_pos (by omega)]
  simp only [rd_lt hc, find1_eq, ob_s]
  by_cases h0 : cmpS g[c].1 s = 0
  ·simp only [h0, decide_true, Bool.not_true, cb_f]
   rw [ck_pos (by omega)]
   exact ⟨_, rfl, .inr ⟨c, hc, rfl, (cmpS_eq0 _ _).1 h0⟩⟩
  ·simp only [h0, decide_false, Bool.not_false, cb_t]
   refine ⟨_, rfl, .inl ⟨rfl, fun k hk e => ?_⟩⟩
   have hz : cmpS g[k].1 s = 0 := (cmpS_eq0 _ _).2 e
   rcases Nat.lt_trichotomy k c with h | h | h
   ·have := h3 k hk h; omega
   ·subst h; exact h0 hz
   ·have h5 := hr c k (by unfold labs; simpa using hk) h
    rw [labs_get hc, labs_get hk, e] at h5
    exact h4 c hc (Nat.le_refl _) h5
 ·rw [if_neg (by omega)]
  simp only [ob_s, Bool.not_false, cb_t]
  refine ⟨_, rfl, .inl ⟨rfl, fun k hk e => ?_⟩⟩
  have hz : cmpS g[k].1 s = 0 := (cmpS_eq0 _ _).2 e
  have := h3 k hk (by omega)
  omega
theorem writer_some {w : Wr} (hw : szW w) : ∃ c, trust_checkWriter.f w = some c := by
 have hb : BIG = 140737488355328 := rfl
 obtain ⟨r, r1, r2⟩ := prefs (w := w) (fun y hy => by have := hw.2.2 y hy; omega)
 obtain ⟨b, b1⟩ := secret_some (s := w.2.1) (by have := hw.2.1; omega)
 unfold trust_checkWriter.f
 simp only [isWord_eq, isSecret_eq (s := w.2.1) (by have := hw.2.1; omega), b1, ob_s, r2, within_eq]
 cases wordB w.1 with
 | false => exact ⟨_, rfl⟩
 | true =>
  cases b with
  | false => exact ⟨_, rfl⟩
  | true =>
   simp only [Bool.not_true, cb_f]
   split
   ·cases decide (0 ≤ w.2.2.2.1 ∧ w.2.2.2.1 ≤ 1000000000) with
    | false => exact ⟨_, rfl⟩
    | true =>
     cases decide (0 ≤ w.2.2.2.2 ∧ w.2.2.2.2 ≤ 1000000001) with
     | false => exact ⟨_, rfl⟩
     | true =>
      simp only [Bool.not_true, cb_f, cb_dec]
      split <;> exact ⟨_, rfl⟩
   ·exact ⟨_, rfl⟩
theorem checkLoop {l : List Wr} (hl : l.length ≤ 1000) (hs : ∀ w ∈ l, szW w) : ∀ (n k : Nat), l.length - k = n → (∃ f : Int, f ≠ 0 ∧ trust_CheckWriters.l0 l l (l.length : Int) (k : Int) = some (.inl f)) ∨
  (trust_CheckWriters.l0 l l (l.length : Int) (k : Int) = some (.inr ()) ∧ ∀ i : Nat, ∀ h : i + 1 < l.length, k ≤ i + 1 → cmpS (l[i]'(by omega)).1 l[i + 1].1 < 0) := by
 intro n
 induction n with
 | zero =>
  intro k hn
  refine .inr ⟨loopX_done ?_, fun i h hki => by omega⟩
  simp only [trust_CheckWriters.s0, cb_dec]
  rw [if_neg (by omega)]
 | succ n ih =>
  intro k hn
  have hlt : k < l.length := by omega
  obtain ⟨f, h1⟩ := writer_some (hs _ (List.getElem_mem hlt))
  by_cases hf : f = 0
  ·subst hf
   have cont : (∀ h0 : 0 < k, ¬ cmpS l[k].1 (l[k - 1]'(by omega)).1 ≤ 0) → trust_CheckWriters.s0 l l (l.length : Int) (k : Int) = some (.inl ((k : Int) + 1)) → (∃ f : Int, f ≠ 0 ∧ trust_CheckWriters.l0 l l (l.length : Int) (k : Int) = some (.inl f)) ∨
     (trust_CheckWriters.l0 l l (l.length : Int) (k : Int) = some (.inr ()) ∧ ∀ i : Nat, ∀ h : i + 1 < l.length, k ≤ i + 1 → cmpS (l[i]'(by omega)).1 l[i + 1].1 < 0) := fun hc hstep => by
    rcases ih (k + 1) (by omega) with ⟨f, h3, h4⟩ | ⟨h3, h5⟩
    ·exact .inl ⟨f, h3, (loopX_next hstep).trans h4⟩
    ·refine .inr ⟨(loopX_next hstep).trans h3, fun i hi hki => ?_⟩
     rcases Nat.lt_or_ge i k with h6 | h6
     ·have e : k = i + 1 := by omega
      subst e
      have h8 : ¬ cmpS l[i + 1].1 (l[i]'(by omega)).1 ≤ 0 := hc (by omega)
      have := cmpS_swap l[i + 1].1 (l[i]'(by omega)).1
      omega
     ·exact h5 i hi (by omega)
   rcases Nat.eq_zero_or_pos k with h0 | h0
   ·subst h0
    refine cont (fun h => absurd h (Nat.lt_irrefl _)) ?_
    simp only [trust_CheckWriters.s0, cb_dec, rd_lt hlt, h1, ob_s, decide_true, Bool.not_true, cb_f]
    rw [if_pos (by omega), ck_pos (by omega), if_neg (by omega), ck_in (by omega) (by omega)]
   ·obtain ⟨k', rfl⟩ : ∃ k', k = k' + 1 := ⟨k - 1, by omega⟩
    have hk' : k' < l.length := by omega
    have e : ((k' + 1 : Nat) : Int) - 1 = (k' : Int) := by omega
    by_cases hc : cmpS l[k' + 1].1 l[k'].1 ≤ 0
    ·refine .inl ⟨8, by decide, loopX_done ?_⟩
     simp only [trust_CheckWriters.s0, cb_dec, rd_lt hlt, h1, ob_s, decide_true, Bool.not_true, cb_f, e, rd_lt hk', leq_iff]
     rw [if_pos (by omega), ck_pos (by omega), if_pos (by omega), ck_in (by omega) (by omega), ck_pos (by omega), if_pos hc]
    ·refine cont (fun _ => hc) ?_
     simp only [trust_CheckWriters.s0, cb_dec, rd_lt hlt, h1, ob_s, decide_true, Bool.not_true, cb_f, e, rd_lt hk', leq_iff]
     rw [if_pos (by omega), ck_pos (by omega), if_pos (by omega), ck_in (by omega) (by omega), ck_pos (by omega), if_neg hc, ck_in (by omega) (by omega)]
  ·refine .inl ⟨f, hf, loopX_done ?_⟩
   simp only [trust_CheckWriters.s0, cb_dec, rd_lt hlt, h1, ob_s]
   rw [if_pos (by omega), ck_pos (by omega), decide_eq_false hf]
   rfl
theorem check_some {l : List Wr} (hs : ∀ w ∈ l, szW w) : ∃ c : Int, trust_CheckWriters.f l = some c ∧ (c = 0 → l.length ≤ 50 ∧ Rising (labs l)) := by
 unfold trust_CheckWriters.f
 simp only [cb_dec]
 by_cases h1 : (50 : Int) < ((l.length : Nat) : Int)
 ·rw [if_pos h1]; exact ⟨2, rfl, fun h => by cases h⟩
 ·rw [if_neg h1]
  have h2 := checkLoop (l := l) (by omega) hs l.length 0 (by omega)
  rw [show ((0 : Nat) : Int) = 0 from rfl] at h2
  rcases h2 with ⟨f, h3, h4⟩ | ⟨h3, h4⟩
  ·rw [h4]; exact ⟨f, rfl, fun h => absurd h h3⟩
  ·rw [h3]
   refine ⟨0, rfl, fun _ => ⟨by omega, rising_step fun k hk => ?_⟩⟩
   have hk' : k + 1 < l.length := by unfold labs at hk; simpa using hk
   rw [labs_get (by omega), labs_get hk']
   exact h4 k hk' (by omega)
theorem writerOf_eq {l : List Wr} (hl : l.length ≤ 1000) (s : ByteArray) : ∃ r : Int, ref11_writerOf.f l s = some r ∧ ((r = -1 ∧ ∀ k : Nat, ∀ h : k < l.length, l[k].1 ≠ s) ∨ ∃ k : Nat, r = k ∧ ∃ h : k < l.length, l[k].1 = s) := by
 have go : ∀ (n k : Nat), l.length - k = n → (∀ j : Nat, ∀ h : j < l.length, j < k → l[j].1 ≠ s) → ∃ r, ref11_writerOf.l0 s l (l.length : Int) (k : Int) = some r ∧ ((r = .inr () ∧ ∀ j : Nat, ∀ h : j < l.length, l[j].1 ≠ s) ∨ ∃ i : Nat, r = .inl (i : Int) ∧ ∃ h : i < l.length, l[i].1 = s) := by
  intro n
  induction n with
  | zero =>
   intro k hn hb
   refine ⟨.inr (), loopX_done ?_, .inl ⟨rfl, fun j h => hb j h (by omega)⟩⟩
   simp only [ref11_writerOf.s0, cb_dec]
   rw [if_neg (by omega)]
  | succ n ih =>
   intro k hn hb
   have hlt : k < l.length := by omega
   by_cases e : l[k].1 = s
   ·refine ⟨.inl (k : Int), loopX_done ?_, .inr ⟨k, rfl, hlt, e⟩⟩
    simp only [ref11_writerOf.s0, cb_dec, rd_lt hlt]
    rw [if_pos (by omega), ck_pos (by omega), if_pos e]
   ·obtain ⟨r, h1, h2⟩ := ih (k + 1) (by omega) (fun j hj hjk => by
     rcases Nat.lt_or_ge j k with h | h
     ·exact hb j hj h
     ·have : j = k := by omega
      subst this
      exact e)
    refine ⟨r, (loopX_next ?_).trans h1, h2⟩
    simp only [ref11_writerOf.s0, cb_dec, rd_lt hlt]
    rw [if_pos (by omega), ck_pos (by omega), if_neg e, ck_in (by omega) (by omega)]
    rfl
 obtain ⟨r, h1, h2⟩ := go l.length 0 (by omega) (fun j _ hj => absurd hj (Nat.not_lt_zero _))
 rw [show ((0 : Nat) : Int) = 0 from rfl] at h1
 unfold ref11_writerOf.f
 simp only [h1, ob_s]
 rcases h2 with ⟨rfl, h3⟩ | ⟨i, rfl, h3⟩
 ·exact ⟨-1, rfl, .inl ⟨rfl, h3⟩⟩
 ·exact ⟨i, rfl, .inr ⟨i, rfl, h3⟩⟩
def mayB (w : Wr) (s : ByteArray) (t : Int) : Bool := decide (w.2.2.2.1 ≤ t) && (decide (t < w.2.2.2.2) && w.2.2.1.any (fun p => hasP s p))
theorem may_eq {w : Wr} (hw : w.2.2.1.length ≤ 100000000000) (s : ByteArray) (t : Int) : trust_may.f w s t = some (mayB w s t) := by
 have go : ∀ (n k : Nat), w.2.2.1.length - k = n → ∃ r, slices_IndexFunc_string_string_f42.l0 w.2.2.1 s (w.2.2.1.length : Int) (k : Int) = some r ∧ ((r = .inr () ∧ (w.2.2.1.drop k).any (fun p => hasP s p) = false) ∨ ∃ i : Nat, r = .inl (i : Int) ∧ (w.2.2.1.drop k).any (fun p => hasP s p) = true) := by
  intro n
  induction n with
  | zero =>
   intro k hn
   refine ⟨.inr (), loopX_done ?_, .inl ⟨rfl, by rw [List.drop_eq_nil_of_le (by omega)]; rfl⟩⟩
   simp only [slices_IndexFunc_string_string_f42.s0, cb_dec]
   rw [if_neg (by omega)]
  | succ n ih =>
   intro k hn
   have hlt : k < w.2.2.1.length := by omega
   rw [List.drop_eq_getElem_cons hlt, List.any_cons]
   cases e : hasP s w.2.2.1[k] with
   | true =>
    refine ⟨.inl (k : Int), loopX_done ?_, .inr ⟨k, rfl, rfl⟩⟩
    simp only [slices_IndexFunc_string_string_f42.s0, cb_dec, rd_lt hlt, trust_may_1.f, prefix_eq, e, ob_s, cb_t]
    rw [if_pos (by omega), ck_pos (by omega)]
   | false =>
    obtain ⟨r, h1, h2⟩ := ih (k + 1) (by omega)
    refine ⟨r, (loopX_next ?_).trans h1, by simpa using h2⟩
    simp only [slices_IndexFunc_string_string_f42.s0, cb_dec, rd_lt hlt, trust_may_1.f, prefix_eq, e, ob_s, cb_f]
    rw [if_pos (by omega), ck_pos (by omega), ck_in (by omega) (by omega)]
    rfl
 obtain ⟨r, h1, h2⟩ := go _ 0 rfl
 rw [show ((0 : Nat) : Int) = 0 from rfl, List.drop_zero] at *
 have hc : slices_ContainsFunc_string_string_f42.f w.2.2.1 s = some (w.2.2.1.any (fun p => hasP s p)) := by
  unfold slices_ContainsFunc_string_string_f42.f slices_IndexFunc_string_string_f42.f
  simp only [h1, ob_s]
  rcases h2 with ⟨rfl, h3⟩ | ⟨i, rfl, h3⟩
  ·rw [h3]; rfl
  ·rw [h3]
   simp only [caseS_l, ob_s]
   rw [decide_eq_true (by omega)]
 unfold trust_may.f mayB
 simp only [hc, ob_s]
 cases decide (w.2.2.2.1 ≤ t) with
 | false => rfl
 | true =>
  cases decide (t < w.2.2.2.2) with
  | false => rfl
  | true => rfl
theorem mayR_eq {w : Wr} (hw : w.2.2.1.length ≤ 100000000000) (s : ByteArray) (t : Int) : ref11_may.f w s t = some (mayB w s t) := by
 have go : ∀ (n k : Nat), w.2.2.1.length - k = n → ref11_may.l0 s t w w.2.2.1 (w.2.2.1.length : Int) (k : Int) = some (if (w.2.2.1.drop k).any (fun p => hasP s p) = true then .inl (decide (w.2.2.2.1 ≤ t) && decide (t < w.2.2.2.2)) else .inr ()) := by
  intro n
  induction n with
  | zero =>
   intro k hn
   rw [List.drop_eq_nil_of_le (by omega)]
   refine loopX_done ?_
   simp only [ref11_may.s0, cb_dec]
   rw [if_neg (by omega)]
   rfl
  | succ n ih =>
   intro k hn
   have hlt : k < w.2.2.1.length := by omega
   rw [List.drop_eq_getElem_cons hlt, List.any_cons]
   cases e : hasP s w.2.2.1[k] with
   | true =>
    refine loopX_done ?_
    simp only [ref11_may.s0, cb_dec, rd_lt hlt, prefix_eq, e, ob_s, cb_t]
    rw [if_pos (by omega), ck_pos (by omega)]
    by_cases h : w.2.2.2.1 ≤ t
    ·rw [if_pos h, decide_eq_true h]; rfl
    ·rw [if_neg h, decide_eq_false h]; rfl
   | false =>
    rw [Bool.false_or]
    refine (loopX_next ?_).trans (ih (k + 1) (by omega))
    simp only [ref11_may.s0, cb_dec, rd_lt hlt, prefix_eq, e, ob_s, cb_f]
    rw [if_pos (by omega), ck_pos (by omega), ck_in (by omega) (by omega)]
    rfl
 have h1 := go _ 0 rfl
 rw [show ((0 : Nat) : Int) = 0 from rfl, List.drop_zero] at h1
 unfold ref11_may.f mayB
 simp only [h1, ob_s]
 cases w.2.2.1.any (fun p => hasP s p) with
 | true => simp only [if_true, caseS_l, Bool.and_true]
 | false => simp only [Bool.false_eq_true, if_false, caseS_r, Bool.and_false]
theorem May_eq {l : List Wr} (hs : ∀ w ∈ l, szW w) (hn : ∀ w ∈ l, w.2.2.1.length ≤ 100000000000) {a b : ByteArray} (hb : b.size ≤ 100000000000) (t : Int) : trust_May.f l a b t = ref11_May.f l a b t ∧ ∃ r, trust_May.f l a b t = some r := by
 unfold trust_May.f ref11_May.f
 rw [← check_eq hs]
 obtain ⟨c, c1, c2⟩ := check_some hs
 rw [c1]
 obtain ⟨e1, q, e2⟩ := label_eq hb
 simp only [ob_s, isWord_eq, isWord_ref, e1, e2, within_eq, withinR_eq]
 by_cases h0 : c = 0
 ·obtain ⟨h1, h2⟩ := c2 h0
  rw [decide_eq_true h0]
  simp only [Bool.not_true, cb_f]
  cases wordB a with
  | false => exact ⟨rfl, _, rfl⟩
  | true =>
   cases q with
   | false => exact ⟨rfl, _, rfl⟩
   | true =>
    cases decide (0 ≤ t ∧ t ≤ 1000000000) with
    | false => exact ⟨rfl, _, rfl⟩
    | true =>
     simp only [Bool.not_true, cb_f]
     obtain ⟨r, r1, r2⟩ := find_ok (by omega) h2 a
     obtain ⟨i, i1, i2⟩ := writerOf_eq (l := l) (by omega) a
     rw [r1, i1]
     simp only [ob_s]
     rcases r2 with ⟨r2, r3⟩ | ⟨k, hk, r2, r3⟩
     ·rcases i2 with ⟨i2, _⟩ | ⟨k, _, hk, i3⟩
      ·rw [r2, i2]; exact ⟨rfl, _, rfl⟩
      ·exact absurd i3 (r3 k hk)
     ·rcases i2 with ⟨_, i3⟩ | ⟨k', i2, hk', i3⟩
      ·exact absurd r3 (i3 k hk)
      ·have hkk : k = k' := h2.inj (by unfold labs; simpa using hk) (by unfold labs; simpa using hk') (by rw [labs_get hk, labs_get hk', r3, i3])
       subst hkk
       rw [r2, i2]
       have hm := may_eq (w := l[k]) (hn _ (List.getElem_mem hk)) b t
       have hm' := mayR_eq (w := l[k]) (hn _ (List.getElem_mem hk)) b t
       simp only [cb_t, hm, ob_s]
       rw [decide_eq_true (by omega), cb_t, ck_pos (by omega)]
       simp only [rd_lt hk, hm', ob_s]
       exact ⟨trivial, _, rfl⟩
 ·rw [decide_eq_false h0]
  exact ⟨rfl, _, rfl⟩
end Go.Proofs.YtahlodpolggeiaaDoor
set_option linter.unusedVariables false
set_option linter.unusedSimpArgs false
namespace Go.Proofs.YtahlodpolggeiaaDoor
open Go Go.Lib Go.Proofs.YtahlodpolggeiaaDoor.Eng
theorem nq_same {β : Type} {c : Prop} {a : Option β} : nq c a a = a := by
 unfold nq
 split
 ·rfl
 ·cases a <;> simp
theorem cloneS {l : List ByteArray} (h : l.length * 16 ≤ 140737488355328) : slices_Clone_string_string.f l = some l := by
 unfold slices_Clone_string_string.f
 by_cases he : l = []
 ·subst he
  rw [ck_pos (by simp)]
  exact nq_same
 ·unfold nq
  rw [if_pos he, ck_pos (by simp; omega)]
  rfl
theorem equalS {l : List ByteArray} (hl : l.length ≤ 1000000000000) : slices_Equal_string_string.f l l = some true := by
 have go : ∀ (n k : Nat), l.length - k = n → slices_Equal_string_string.l0 l l (l.length : Int) (k : Int) = some (.inr ()) := by
  intro n
  induction n with
  | zero =>
   intro k hn
   refine loopX_done ?_
   simp only [slices_Equal_string_string.s0, cb_dec]
   rw [if_neg (by omega)]
  | succ n ih =>
   intro k hn
   have hlt : k < l.length := by omega
   refine (loopX_next ?_).trans (ih (k + 1) (by omega))
   simp only [slices_Equal_string_string.s0, cb_dec, rd_lt hlt, cb_not, if_true]
   rw [if_pos (by omega), ck_pos (by omega), ck_pos (by omega), ck_in (by omega) (by omega)]
   rfl
 have h := go l.length 0 (by omega)
 rw [show ((0 : Nat) : Int) = 0 from rfl] at h
 unfold slices_Equal_string_string.f
 simp only [cb_not, cb_dec, if_true, h, ob_s, caseS_r]
theorem copy_eq {l : List Wr} (hl : l.length ≤ 100000000000) (hn : ∀ w ∈ l, w.2.2.1.length ≤ 100000000000) : ref11_CopyWriters.f l = some l := by
 have go : ∀ (n k : Nat) (o : List Wr), l.length - k = n → k ≤ l.length → o.length = k → ref11_CopyWriters.l0 l (l.length : Int) (k : Int) o = some (o ++ l.drop k) := by
  intro n
  induction n with
  | zero =>
   intro k o hn hk ho
   rw [List.drop_eq_nil_of_le (by omega), List.append_nil]
   refine loopX_done ?_
   simp only [ref11_CopyWriters.s0, cb_dec]
   rw [if_neg (by omega)]
  | succ n ih =>
   intro k o hn' hk ho
   have hlt : k < l.length := by omega
   have hw := hn _ (List.getElem_mem hlt)
   have h2 := ih (k + 1) (o ++ [l[k]]) (by omega) (by omega) (by simp [ho])
   rw [List.append_assoc, List.singleton_append, ← List.drop_eq_getElem_cons hlt] at h2
   refine (loopX_next ?_).trans h2
   simp only [ref11_CopyWriters.s0, cb_dec, rd_lt hlt, cloneS (l := l[k].2.2.1) (by omega), ob_s]
   rw [if_pos (by omega), ck_pos (by omega), ck_pos (by simp only [List.length_cons, List.length_nil]; omega), ck_in (by omega) (by omega)]
   rfl
 unfold ref11_CopyWriters.f
 have h := go l.length 0 [] (by omega) (by omega) rfl
 rw [List.drop_zero, List.nil_append, show ((0 : Nat) : Int) = 0 from rfl] at h
 simp only [h, ob_s]
theorem same_eq {l : List Wr} (hl : l.length ≤ 100000000000) (hn : ∀ w ∈ l, w.2.2.1.length ≤ 100000000000) : ref11_SameWriters.f l l = some true := by
 have go : ∀ (n k : Nat), l.length - k = n → ref11_SameWriters.l0 l l (l.length : Int) (k : Int) = some (.inr ()) := by
  intro n
  induction n with
  | zero =>
   intro k hn'
   refine loopX_done ?_
   simp only [ref11_SameWriters.s0, cb_dec]
   rw [if_neg (by omega)]
  | succ n ih =>
   intro k hn'
   have hlt : k < l.length := by omega
   have hw := hn _ (List.getElem_mem hlt)
   have c0 : 0 ≤ (k : Int) ∧ (k : Int) < (l.length : Int) := by omega
   have c1 : InR ((k : Int) + 1) := ⟨by omega, by omega⟩
   refine (loopX_next ?_).trans (ih (k + 1) (by omega))
   simp only [ref11_SameWriters.s0, cb_dec, rd_lt hlt, ck_pos c0, ck_pos c1, if_pos c0.2, cb_not, if_true, equalS (l := l[k].2.2.1) (by omega), ob_s, cb_t]
   rfl
 have h := go l.length 0 (by omega)
 rw [show ((0 : Nat) : Int) = 0 from rfl] at h
 unfold ref11_SameWriters.f
 simp only [cb_not, cb_dec, if_true, h, ob_s, caseS_r]
theorem ck_dec {β : Type} {c : Prop} [h : Decidable c] {a : Option β} : ck c a = if c then a else none := by
 by_cases hc : c
 ·rw [ck_pos hc, if_pos hc]
 ·rw [ck_neg hc, if_neg hc]
local instance (x : Int) : Decidable (InR x) := inferInstanceAs (Decidable (_ ∧ _))
theorem split_none {s : ByteArray} (hs : s.size ≤ 100000000000) (h : Lib.countByte s.data.toList 47 = 0) : splitL s = [s] := by
 have h1 : strings_Split.f s bs_47 = some [s] := by
  have hcnt : strings_Count.f s bs_47 = some 0 := by
   unfold strings_Count.f
   rw [ck_pos (by rfl)]
   show some ((Lib.countByte s.data.toList 47 : Nat) : Int) = _
   rw [h]; rfl
  have l : strings_genSplit.l0 bs_47 0 (1 - 1) s 0 (List.replicate 1 ByteArray.empty) = some (s, 0, List.replicate 1 ByteArray.empty) := loopX_done (by rfl)
  have e : ((min (0 + 1) (((s.size : Nat) : Int) + 1) : Int)) = 1 := by omega
  have e1 : Int.toNat 1 = 1 := rfl
  unfold strings_Split.f strings_genSplit.f
  simp only [hcnt, ob_s, e, e1, l]
  rw [show decide ((-1 : Int) = 0) = false from rfl, cb_f, show decide (bs_47 = bs_) = false from rfl, cb_f, show decide ((-1 : Int) < 0) = true from rfl, cb_t, ck_in (by omega) (by omega), ck_in (by omega) (by omega), ck_pos (by omega), ck_in (by omega) (by omega)]
  simp only [ck_dec]
  rfl
 unfold splitL
 rw [h1]; rfl
abbrev W1 : Wr := (bs_97, (bs_115, ([bs_47_47_97_112_112], (0, 5))))
theorem writer1 : trust_checkWriter.f W1 = some 0 := by
 have l : trust_checkWriter.l0 W1 [bs_47_47_97_112_112] 1 0 = some (.inr ()) := by
  refine (loopX_next (x' := 1) ?_).trans (loopX_done (by rfl))
  have e : rd ByteArray.empty [bs_47_47_97_112_112] 0 = bs_47_47_97_112_112 := rfl
  simp only [trust_checkWriter.s0, e, prefix_eq, isPlain_eq, ob_s, show hasP bs_47_47_97_112_112 bs_47_47 = true from by decide, show plainB bs_47_47_97_112_112 = true from by decide, ck_dec]
  rfl
 have s1 : trust_isSecret.f bs_115 = some true := by
  unfold trust_isSecret.f
  rw [isPlain_eq, show plainB bs_115 = true from by decide]
  rfl
 unfold trust_checkWriter.f
 simp only [isWord_eq, show wordB bs_97 = true from by decide, s1, ob_s, within_eq]
 show cb _ _ (cb _ _ (cb _ _ (ob (trust_checkWriter.l0 W1 [bs_47_47_97_112_112] 1 0) _))) = _
 rw [l]
 rfl
theorem check1 : trust_CheckWriters.f [W1] = some 0 := by
 have l : trust_CheckWriters.l0 [W1] [W1] 1 0 = some (.inr ()) := by
  refine (loopX_next (x' := 1) ?_).trans (loopX_done (by rfl))
  have e : rd (ByteArray.empty, (ByteArray.empty, (([] : List ByteArray), ((0 : Int), (0 : Int))))) [W1] 0 = W1 := rfl
  simp only [trust_CheckWriters.s0, e, writer1, ob_s, ck_dec]
  rfl
 unfold trust_CheckWriters.f
 show cb _ _ (ob (trust_CheckWriters.l0 [W1] [W1] 1 0) _) = _
 rw [l]
 rfl
def bs_ap : ByteArray := ⟨#[97, 112, 112, 108, 101]⟩
def bs_x : ByteArray := ⟨#[120]⟩
theorem whole1 : script_IsWhole.f bs_47_47_97_112_112_108_101_58_120 = some true := by
 obtain ⟨b, h1, h2⟩ := whole_iff (s := bs_47_47_97_112_112_108_101_58_120) (by decide)
 have : b = true := h2.2 ⟨bs_ap, bs_x, rfl, by decide, by
  unfold labF isPathB
  rw [split_none (s := bs_ap) (by decide) (by decide), split_none (s := bs_x) (by decide) (by decide)]
  rfl⟩
 rw [h1, this]
theorem may1 (t : Int) (h0 : 0 ≤ t) (h1 : t ≤ 1000000000) : trust_May.f [W1] bs_97 bs_47_47_97_112_112_108_101_58_120 t = some (mayB W1 bs_47_47_97_112_112_108_101_58_120 t, 0) := by
 have hr : Rising (labs [W1]) := fun i j h h' => by
  have : j < 1 := h
  omega
 obtain ⟨r, r1, r2⟩ := find_ok (g := [W1]) (by decide) hr bs_97
 have hr2 : r = (W1, true) := by
  rcases r2 with ⟨_, h⟩ | ⟨k, hk, e, _⟩
  ·exact absurd rfl (h 0 (by decide))
  ·have : k = 0 := by simp at hk; exact hk
   subst this
   exact e
 unfold trust_May.f
 simp only [check1, ob_s, isWord_eq, show wordB bs_97 = true from by decide, whole1, within_eq, decide_eq_true (show 0 ≤ t ∧ t ≤ 1000000000 from ⟨h0, h1⟩), r1, hr2, may_eq (w := W1) (by decide)]
 rfl
theorem awake11 : law11_awake.f = some true := by
 have m1 : mayB W1 bs_47_47_97_112_112_108_101_58_120 4 = true := by decide
 have m2 : mayB W1 bs_47_47_97_112_112_108_101_58_120 5 = false := by decide
 have a1 := may1 4 (by decide) (by decide)
 have a2 := may1 5 (by decide) (by decide)
 rw [m1] at a1
 rw [m2] at a2
 unfold law11_awake.f
 show ob (trust_May.f [W1] bs_97 bs_47_47_97_112_112_108_101_58_120 4) _ = _
 rw [a1, ob_s]
 show ob (trust_May.f [W1] bs_97 bs_47_47_97_112_112_108_101_58_120 5) _ = _
 rw [a2, ob_s]
 rfl
theorem law_TW {l : List Wr} (hs : ∀ w ∈ l, szW w) (hl : l.length ≤ 100000000000) (hn : ∀ w ∈ l, w.2.2.1.length ≤ 100000000000) (a : ByteArray) {b : ByteArray} (hb : b.size ≤ 100000000000) (t : Int) : law11_TrustWritersMatchSpec.f l a b t = some true := by
 obtain ⟨h1, r, h2⟩ := May_eq hs hn (a := a) hb t
 obtain ⟨c, c1, _⟩ := check_some hs
 unfold law11_TrustWritersMatchSpec.f
 simp only [copy_eq hl hn, ob_s, ← h1, h2, ← check_eq hs, c1, decide_true, cb_t, beq_self_eq_true, same_eq hl hn, awake11]
end Go.Proofs.YtahlodpolggeiaaDoor
