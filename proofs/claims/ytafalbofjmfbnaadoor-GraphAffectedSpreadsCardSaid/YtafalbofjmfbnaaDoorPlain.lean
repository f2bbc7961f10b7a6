/-
  The plain laws of frames and of feeding them, over the printed functions. No condition.
-/
import Derived.Test.YtafalbofjmfbnaaDoorFun
import Derived.KernelRfl
import Derived.Test.YtafalbofjmfbnaaDoorTypC
set_option linter.unusedVariables false
set_option linter.unusedSimpArgs false
namespace Go.Proofs.YtafalbofjmfbnaaDoor.Eng
inductive Way (E : Nat → Nat → Prop) : Nat → Nat → Nat → Prop
 | nil (a : Nat) : Way E a a 0
 | snoc {a b c m : Nat} (h : Way E a b m) (e : E b c) : Way E a c (m + 1)
theorem Way.trans {E : Nat → Nat → Prop} {a b c m k : Nat} (h : Way E a b m) (h' : Way E b c k) : Way E a c (m + k) := by
 induction h' with
 | nil => exact h
 | snoc _ e ih => exact .snoc ih e
theorem Way.one {E : Nat → Nat → Prop} {a b : Nat} (e : E a b) : Way E a b 1 := .snoc (.nil a) e
theorem Way.cons {E : Nat → Nat → Prop} {a b c m : Nat} (e : E a b) (h : Way E b c m) : Way E a c (m + 1) := by
 have := (Way.one e).trans h
 rwa [Nat.add_comm] at this
structure Far (n : Nat) (E : Nat → Nat → Prop) (S : Nat → Prop) (d : Nat → Int) : Prop where
 low : ∀ k, k < n → d k = -1 ∨ 0 ≤ d k
 src : ∀ k, k < n → (d k = 0 ↔ S k)
 step : ∀ k y, k < n → E k y → 0 ≤ d k → 0 ≤ d y ∧ d y ≤ d k + 1
 back : ∀ y, y < n → 0 < d y → ∃ k, k < n ∧ E k y ∧ d k = d y - 1
section
variable {n : Nat} {E : Nat → Nat → Prop} {S : Nat → Prop} {d d' : Nat → Int}
theorem Far.way (h : Far n E S d) (hE : ∀ k y, E k y → k < n ∧ y < n) {a b m : Nat} (ha : a < n) (hs : S a) (hw : Way E a b m) : 0 ≤ d b ∧ d b ≤ m := by
 induction hw with
 | nil => have := (h.src _ ha).2 hs; omega
 | snoc hw e ih =>
  have := h.step _ _ (hE _ _ e).1 e ih.1
  omega
theorem Far.ex (h : Far n E S d) : ∀ (m b : Nat), b < n → d b = m → ∃ a, a < n ∧ S a ∧ Way E a b m
 | 0, b, hb, hd => ⟨b, hb, (h.src b hb).1 hd, .nil b⟩
 | m + 1, b, hb, hd => by
  obtain ⟨k, hk, he, hdk⟩ := h.back b hb (by omega)
  obtain ⟨a, ha, hs, hw⟩ := Far.ex h m k hk (by omega)
  exact ⟨a, ha, hs, .snoc hw he⟩
end
end Go.Proofs.YtafalbofjmfbnaaDoor.Eng
set_option linter.unusedVariables false
set_option linter.unusedSimpArgs false
namespace Go.Proofs.YtafalbofjmfbnaaDoor
open Go Go.Proofs.YtafalbofjmfbnaaDoor.Eng
abbrev Nd := ByteArray × (ByteArray × ((List ByteArray) × ((List ByteArray) × ((List ByteArray) × Int))))
def BIG : Nat := 140737488355328
theorem size_list (s : ByteArray) : s.size = s.data.toList.length := by rw [ByteArray.size]; simp
theorem bt_get {s : ByteArray} {k : Nat} (h : k < s.data.toList.length) : bt s (k : Int) = s.data.toList[k] := by
 have h' : k < s.size := by rw [size_list]; exact h
 unfold bt
 simp only [Int.toNat_natCast]
 rw [getElem?_pos s k h', Option.getD_some]
 rfl
theorem byteLoop {s : ByteArray} (hs : s.size ≤ BIG) (p : UInt8 → Bool) (f : Int → Option (Int ⊕ (Bool ⊕ Unit))) (hend : ∀ k : Nat, s.data.toList.length ≤ k → f k = some (.inr (.inr ())))
  (hno : ∀ k : Nat, ∀ h : k < s.data.toList.length, p s.data.toList[k] = false → f k = some (.inr (.inl false))) (hyes : ∀ k : Nat, ∀ h : k < s.data.toList.length, p s.data.toList[k] = true → f k = some (.inl ((k : Int) + 1))) :
  ∀ (n k : Nat), s.data.toList.length - k = n → loopX f (k : Int) = some (if (s.data.toList.drop k).all p then .inr () else .inl false) := by
 intro n
 induction n with
 | zero =>
  intro k hn
  rw [List.drop_eq_nil_of_le (by omega)]
  exact loopX_done (hend k (by omega))
 | succ n ih =>
  intro k hn
  have hlt : k < s.data.toList.length := by omega
  rw [List.drop_eq_getElem_cons hlt, List.all_cons]
  cases hp : p s.data.toList[k] with
  | false => exact loopX_done (hno k hlt hp)
  | true =>
   rw [Bool.true_and]
   exact (loopX_next (hyes k hlt hp)).trans (ih (k + 1) (by omega))
def partC (c : UInt8) : Bool := decide (97 ≤ c.toNat ∧ c.toNat ≤ 122) || decide (65 ≤ c.toNat ∧ c.toNat ≤ 90) || decide (48 ≤ c.toNat ∧ c.toNat ≤ 57) || decide (0 ≤ Lib.indexByte [46, 95, 45, 43] c)
theorem inPart_eq (c : UInt8) : blob_inPart.f c = some (partC c) := by
 have hi : strings_IndexByte.f bs_46_95_45_43 c = some (Lib.indexByte [46, 95, 45, 43] c) := rfl
 unfold blob_inPart.f partC
 simp only [cb_dec, hi, ob_s]
 by_cases h1 : (97 : Int) ≤ ((UInt8.toNat c : Nat) : Int) <;> by_cases h2 : ((UInt8.toNat c : Nat) : Int) ≤ 122 <;> by_cases h3 : (65 : Int) ≤ ((UInt8.toNat c : Nat) : Int) <;> by_cases h4 : ((UInt8.toNat c : Nat) : Int) ≤ 90 <;>
  by_cases h5 : (48 : Int) ≤ ((UInt8.toNat c : Nat) : Int) <;> by_cases h6 : ((UInt8.toNat c : Nat) : Int) ≤ 57 <;> simp only [h1, h2, h3, h4, h5, h6, if_true, if_false] <;> congr 1 <;>
  (have g1 : decide (97 ≤ c.toNat ∧ c.toNat ≤ 122) = decide ((97 : Int) ≤ ((UInt8.toNat c : Nat) : Int) ∧ ((UInt8.toNat c : Nat) : Int) ≤ 122) := decide_eq_decide.2 (by omega)
   have g2 : decide (65 ≤ c.toNat ∧ c.toNat ≤ 90) = decide ((65 : Int) ≤ ((UInt8.toNat c : Nat) : Int) ∧ ((UInt8.toNat c : Nat) : Int) ≤ 90) := decide_eq_decide.2 (by omega)
   have g3 : decide (48 ≤ c.toNat ∧ c.toNat ≤ 57) = decide ((48 : Int) ≤ ((UInt8.toNat c : Nat) : Int) ∧ ((UInt8.toNat c : Nat) : Int) ≤ 57) := decide_eq_decide.2 (by omega)
   rw [g1, g2, g3]; simp [h1, h2, h3, h4, h5, h6])
def isPartB (s : ByteArray) : Bool := s.data.toList.all partC && (!decide (s = bs_) && (!decide (s = bs_46) && !decide (s = bs_46_46)))
theorem isPart_eq {s : ByteArray} (hs : s.size ≤ BIG) : blob_isPart.f s = some (isPartB s) := by
 have hb : BIG = 140737488355328 := rfl
 have hl := size_list s
 have h := byteLoop hs partC (fun x => blob_isPart.s0 s (s.size : Int) x) (fun k hk => by
  simp only [blob_isPart.s0, cb_dec]; rw [if_neg (by omega)]) (fun k hk hp => by
  simp only [blob_isPart.s0, cb_dec, bt_get hk, inPart_eq, hp, ob_s]; rw [if_pos (by omega), ck_pos (by omega)]; rfl) (fun k hk hp => by
  simp only [blob_isPart.s0, cb_dec, bt_get hk, inPart_eq, hp, ob_s]; rw [if_pos (by omega), ck_pos (by omega), ck_in (by omega) (by omega)]; rfl) s.data.toList.length 0 (by omega)
 rw [List.drop_zero] at h
 unfold blob_isPart.f isPartB
 show ob (loopX (fun x => blob_isPart.s0 s (s.size : Int) x) ((0 : Nat) : Int)) _ = _
 rw [h]
 cases s.data.toList.all partC
 ·rfl
 ·simp only [if_true, ob_s, caseS_r, Bool.true_and, cb_not, cb_dec]
  by_cases e1 : s = bs_
  ·rw [if_pos e1, decide_eq_true e1]; rfl
  ·rw [if_neg e1, decide_eq_false e1]
   by_cases e2 : s = bs_46
   ·rw [if_pos e2, decide_eq_true e2]; rfl
   ·rw [if_neg e2, decide_eq_false e2]; rfl
theorem indexByte_lt : ∀ (l : List UInt8) (c : UInt8), -1 ≤ Lib.indexByte l c ∧ Lib.indexByte l c < l.length
 | [], c => by simp [Lib.indexByte]
 | b :: l, c => by
  have h := indexByte_lt l c
  unfold Lib.indexByte
  split
  ·simp only [List.length_cons]; omega
  ·split
   ·simp only [List.length_cons]; omega
   ·rename_i h1
    have : ¬ Lib.indexByte l c = -1 := by simpa using h1
    simp only [List.length_cons]; omega
theorem index47 (s : ByteArray) : strings_Index.f s bs_47 = some (Lib.indexByte s.data.toList 47) := by
 show ob (ck _ _) _ = _
 rw [ck_pos (by rfl)]; rfl
theorem index58 (s : ByteArray) : internal_stringslite_Index.f s bs_58 = some (Lib.indexByte s.data.toList 58) := by
 show ck _ _ = _
 rw [ck_pos (by rfl)]; rfl
theorem extract_size (s : ByteArray) (a b : Nat) : (s.extract a b).size = min b s.size - a := by simp [ByteArray.size_extract]
theorem splitLoop {n : Nat} (hn : n ≤ 1000000000000) : ∀ (m i : Nat) (s : ByteArray) (a : List ByteArray), n - i = m → i ≤ n → a.length = n + 1 → s.size ≤ BIG →
  ∃ (s' : ByteArray) (i' : Nat) (a' : List ByteArray), strings_genSplit.l0 bs_47 0 (n : Int) s (i : Int) a = some (s', (i' : Int), a') ∧ i' ≤ n ∧ a'.length = n + 1 ∧ (∀ x ∈ a', x.size ≤ s.size ∨ x ∈ a) ∧ s'.size ≤ s.size := by
 intro m
 have hb : BIG = 140737488355328 := rfl
 induction m with
 | zero =>
  intro i s a hm hi ha hs
  refine ⟨s, i, a, loopX_done ?_, hi, ha, fun x hx => .inr hx, Nat.le_refl _⟩
  simp only [strings_genSplit.s0, cb_dec]
  rw [if_neg (by omega)]
 | succ m ih =>
  intro i s a hm hi ha hs
  have hx := indexByte_lt s.data.toList 47
  have hl := size_list s
  by_cases hneg : Lib.indexByte s.data.toList 47 < 0
  ·refine ⟨s, i, a, loopX_done ?_, hi, ha, fun x hx => .inr hx, Nat.le_refl _⟩
   simp only [strings_genSplit.s0, cb_dec, index47, ob_s]
   rw [if_pos (by omega), if_pos hneg]
  ·have hz1 := extract_size s 0 (Int.toNat (Lib.indexByte s.data.toList 47 + 0))
   have hz2 := extract_size s (Int.toNat (Lib.indexByte s.data.toList 47 + ((bs_47.size : Nat) : Int))) s.size
   have h1 : bs_47.size = 1 := rfl
   obtain ⟨s', i', a', h2, h3, h4, h5, h6⟩ := ih (i + 1) (s.extract (Int.toNat (Lib.indexByte s.data.toList 47 + ((bs_47.size : Nat) : Int))) s.size) (a.set i (s.extract 0 (Int.toNat (Lib.indexByte s.data.toList 47 + 0)))) (by omega) (by omega) (by simpa using ha) (by rw [hz2]; omega)
   refine ⟨s', i', a', (loopX_next ?_).trans h2, h3, h4, fun x hx => ?_, by omega⟩
   ·simp only [strings_genSplit.s0, cb_dec, index47, ob_s]
    rw [if_pos (by omega), if_neg hneg, ck_in (by omega) (by omega), ck_pos (by omega), ck_pos (by omega), ck_pos (by rw [Int.toNat_natCast]; omega), ck_in (by rw [h1]; omega) (by rw [h1]; omega), ck_pos (by rw [h1]; omega), ck_in (by omega) (by omega)]
    rfl
   ·rcases h5 x hx with h | h
    ·left; omega
    ·rcases List.mem_or_eq_of_mem_set h with h | h
     ·exact .inr h
     ·left; rw [h, hz1]; omega
theorem countByte_le (l : List UInt8) (c : UInt8) : (Lib.countByte l c : Nat) ≤ l.length := List.count_le_length
theorem split_some {s : ByteArray} (hs : s.size ≤ 1000000) : ∃ l, strings_Split.f s bs_47 = some l ∧ l.length ≤ 1000002 ∧ ∀ x ∈ l, x.size ≤ s.size := by
 have hb : BIG = 140737488355328 := rfl
 have hl := size_list s
 have hc := countByte_le s.data.toList 47
 have hcnt : strings_Count.f s bs_47 = some ((Lib.countByte s.data.toList 47 : Nat) : Int) := by
  show ck _ _ = _
  rw [ck_pos (by rfl)]; rfl
 obtain ⟨s', i', a', h2, h3, h4, h5, h6⟩ := splitLoop (n := Lib.countByte s.data.toList 47) (by omega) _ 0 s (List.replicate (Lib.countByte s.data.toList 47 + 1) ByteArray.empty) rfl (Nat.zero_le _) (by simp) (by omega)
 unfold strings_Split.f strings_genSplit.f
 have e1 : ¬ (bs_47 = bs_) := by decide
 have hy : min (((Lib.countByte s.data.toList 47 : Nat) : Int) + 1) (((s.size : Nat) : Int) + 1) = ((Lib.countByte s.data.toList 47 + 1 : Nat) : Int) := by omega
 simp only [cb_dec, hcnt, ob_s, hy]
 rw [if_neg (by decide), if_neg e1, if_pos (by decide), ck_in (by omega) (by omega), ck_in (by omega) (by omega), ck_pos (by omega), ck_in (by omega) (by omega)]
 rw [show ((Lib.countByte s.data.toList 47 + 1 : Nat) : Int) - 1 = ((Lib.countByte s.data.toList 47 : Nat) : Int) by omega, Int.toNat_natCast]
 rw [show ((0 : Nat) : Int) = 0 from rfl] at h2
 rw [h2, ob_s]
 simp only
 rw [ck_pos (by omega), ck_pos (by rw [Int.toNat_natCast]; omega), ck_in (by omega) (by omega), ck_pos (by simp only [List.length_set]; omega), ob_s]
 refine ⟨_, rfl, by simp only [List.length_take, List.length_drop, List.length_set]; omega, fun x hx => ?_⟩
 have hx1 := List.mem_of_mem_drop (List.mem_of_mem_take hx)
 rcases List.mem_or_eq_of_mem_set hx1 with h | h
 ·rcases h5 x h with h | h
  ·exact h
  ·have := List.eq_of_mem_replicate h
   rw [this]; exact Nat.zero_le _
 ·rw [h]; exact h6
noncomputable def splitL (s : ByteArray) : List ByteArray := (strings_Split.f s bs_47).getD []
theorem split_eq {s : ByteArray} (hs : s.size ≤ 1000000) : strings_Split.f s bs_47 = some (splitL s) ∧ (splitL s).length ≤ 1000002 ∧ ∀ x ∈ splitL s, x.size ≤ s.size := by
 obtain ⟨l, h1, h2, h3⟩ := split_some hs
 have e : splitL s = l := by unfold splitL; rw [h1]; rfl
 rw [e]
 exact ⟨h1, h2, h3⟩
theorem listLoop {α : Type} {l : List α} (p : α → Bool) (f : Int → Option (Int ⊕ (Bool ⊕ Unit))) (hend : ∀ k : Nat, l.length ≤ k → f k = some (.inr (.inr ())))
  (hno : ∀ k : Nat, ∀ h : k < l.length, p l[k] = false → f k = some (.inr (.inl false))) (hyes : ∀ k : Nat, ∀ h : k < l.length, p l[k] = true → f k = some (.inl ((k : Int) + 1))) :
  ∀ (n k : Nat), l.length - k = n → loopX f (k : Int) = some (if (l.drop k).all p then .inr () else .inl false) := by
 intro n
 induction n with
 | zero =>
  intro k hn
  rw [List.drop_eq_nil_of_le (by omega)]
  exact loopX_done (hend k (by omega))
 | succ n ih =>
  intro k hn
  have hlt : k < l.length := by omega
  rw [List.drop_eq_getElem_cons hlt, List.all_cons]
  cases hp : p l[k] with
  | false => exact loopX_done (hno k hlt hp)
  | true =>
   rw [Bool.true_and]
   exact (loopX_next (hyes k hlt hp)).trans (ih (k + 1) (by omega))
noncomputable def isPathB (s : ByteArray) : Bool := if 1 ≤ s.size ∧ s.size ≤ 200 then (splitL s).all isPartB else false
theorem isPath_eq (s : ByteArray) : blob_IsPath.f s = some (isPathB s) := by
 have hb : BIG = 140737488355328 := rfl
 unfold blob_IsPath.f isPathB
 simp only [cb_dec]
 by_cases h1 : ((s.size : Nat) : Int) < 1
 ·rw [if_pos h1, if_neg (by omega)]
 ·by_cases h2 : (200 : Int) < ((s.size : Nat) : Int)
  ·rw [if_neg h1, if_pos h2, if_neg (by omega)]
  ·obtain ⟨g1, g2, g3⟩ := split_eq (s := s) (by omega)
   have h := listLoop (l := splitL s) isPartB (fun x => blob_IsPath.s0 (splitL s) ((splitL s).length : Int) x) (fun k hk => by
    simp only [blob_IsPath.s0, cb_dec]; rw [if_neg (by omega)]) (fun k hk hp => by
    have hz := g3 _ (List.getElem_mem hk)
    simp only [blob_IsPath.s0, cb_dec, rd_lt hk, isPart_eq (s := (splitL s)[k]) (by omega), hp, ob_s]; rw [if_pos (by omega), ck_pos (by omega)]; rfl) (fun k hk hp => by
    have hz := g3 _ (List.getElem_mem hk)
    simp only [blob_IsPath.s0, cb_dec, rd_lt hk, isPart_eq (s := (splitL s)[k]) (by omega), hp, ob_s]; rw [if_pos (by omega), ck_pos (by omega), ck_in (by omega) (by omega)]; rfl) (splitL s).length 0 (by omega)
   rw [List.drop_zero] at h
   rw [if_neg h1, if_neg h2, if_pos (by omega), g1, ob_s]
   show ob (loopX (fun x => blob_IsPath.s0 (splitL s) ((splitL s).length : Int) x) ((0 : Nat) : Int)) _ = _
   rw [h]
   cases (splitL s).all isPartB <;> rfl
def hasP (s p : ByteArray) : Bool := decide (p.size ≤ s.size) && decide (s.extract 0 p.size = p)
theorem hasPrefix_eq (s p : ByteArray) : internal_stringslite_HasPrefix.f s p = some (hasP s p) := by
 unfold internal_stringslite_HasPrefix.f hasP
 simp only [cb_dec, Int.toNat_natCast]
 by_cases h : p.size ≤ s.size
 ·rw [if_pos (by omega), ck_pos (by omega), decide_eq_true h, Bool.true_and]
 ·rw [if_neg (by omega), decide_eq_false h, Bool.false_and]
def cutP (s p : ByteArray) : ByteArray × Bool := if hasP s p then (s.extract p.size s.size, true) else (s, false)
theorem cutPrefix_eq (s p : ByteArray) : strings_CutPrefix.f s p = some (cutP s p) := by
 unfold strings_CutPrefix.f internal_stringslite_CutPrefix.f cutP
 simp only [hasPrefix_eq, ob_s, Int.toNat_natCast]
 cases h : hasP s p with
 | false => rfl
 | true =>
  have h' : p.size ≤ s.size := by
   unfold hasP at h
   rw [Bool.and_eq_true] at h
   exact of_decide_eq_true h.1
  simp only [Bool.not_true, cb_f]
  rw [ck_pos (by omega)]
  rfl
def cut58 (s : ByteArray) : ByteArray × (ByteArray × Bool) :=
 if 0 ≤ Lib.indexByte s.data.toList 58 then (s.extract 0 (Lib.indexByte s.data.toList 58).toNat, s.extract ((Lib.indexByte s.data.toList 58).toNat + 1) s.size, true) else (s, bs_, false)
theorem cut_eq {s : ByteArray} (hs : s.size ≤ BIG) : strings_Cut.f s bs_58 = some (cut58 s) := by
 have hb : BIG = 140737488355328 := rfl
 have hx := indexByte_lt s.data.toList 58
 have hl := size_list s
 have h1 : bs_58.size = 1 := rfl
 unfold strings_Cut.f internal_stringslite_Cut.f cut58
 simp only [index58, ob_s, cb_dec, h1]
 by_cases h : 0 ≤ Lib.indexByte s.data.toList 58
 ·rw [if_pos h, if_pos h, ck_pos (by omega), ck_in (by omega) (by omega), ck_pos (by omega), ob_s]
  rw [show (Lib.indexByte s.data.toList 58 + ((1 : Nat) : Int)).toNat = (Lib.indexByte s.data.toList 58).toNat + 1 by omega]
 ·rw [if_neg h, if_neg h]; rfl
theorem last_some {s : ByteArray} (hs : s.size ≤ BIG) : ∃ r, script_last.f s = some r ∧ r.size ≤ s.size := by
 have hb : BIG = 140737488355328 := rfl
 have hl := size_list s
 have go : ∀ (m : Nat) (k : Int), (k + 1).toNat = m → -1 ≤ k → k < s.size → ∃ r, internal_bytealg_LastIndexByteString.l0 s (UInt8.ofInt 47) k = some r ∧ ∀ i, r = .inl i → 0 ≤ i ∧ i < s.size := by
  intro m
  induction m with
  | zero =>
   intro k hm h1 h2
   refine ⟨.inr (), loopX_done ?_, fun i h => by cases h⟩
   simp only [internal_bytealg_LastIndexByteString.s0, cb_dec]
   rw [if_neg (by omega)]
  | succ m ih =>
   intro k hm h1 h2
   by_cases he : ((UInt8.toNat (bt s k) : Nat) : Int) = ((UInt8.toNat (UInt8.ofInt 47) : Nat) : Int)
   ·refine ⟨.inl k, loopX_done ?_, fun i h => by cases h; omega⟩
    simp only [internal_bytealg_LastIndexByteString.s0, cb_dec]
    rw [if_pos (by omega), ck_pos (by omega), if_pos he]
   ·obtain ⟨r, h3, h4⟩ := ih (k - 1) (by omega) (by omega) (by omega)
    refine ⟨r, (loopX_next ?_).trans h3, h4⟩
    simp only [internal_bytealg_LastIndexByteString.s0, cb_dec]
    rw [if_pos (by omega), ck_pos (by omega), if_neg he, ck_in (by omega) (by omega)]
 obtain ⟨r, h1, h2⟩ := go _ (((s.size : Nat) : Int) - 1) rfl (by omega) (by omega)
 unfold script_last.f strings_LastIndexByte.f internal_bytealg_LastIndexByteString.f
 simp only [h1, ob_s]
 rw [ck_in (by omega) (by omega)]
 cases r with
 | inl i =>
  have := h2 i rfl
  simp only [caseS_l, ob_s]
  rw [ck_in (by omega) (by omega), ck_pos (by omega)]
  exact ⟨_, rfl, by rw [extract_size]; omega⟩
 | inr u =>
  simp only [caseS_r, ob_s]
  rw [ck_in (by omega) (by omega), ck_pos (by omega)]
  exact ⟨_, rfl, by rw [extract_size]; omega⟩
noncomputable def labF (a : ByteArray × ByteArray) : Int := if (a.1 = bs_ ∨ isPathB a.1 = true) ∧ isPathB a.2 = true then 0 else 3
theorem checkLabel_eq (a : ByteArray × ByteArray) : script_CheckLabel.f a = some (labF a) := by
 unfold script_CheckLabel.f labF
 simp only [isPath_eq, ob_s, cb_not, cb_dec]
 by_cases e : a.1 = bs_
 ·simp only [e, if_true, true_or, true_and]
  cases isPathB a.2 <;> rfl
 ·simp only [e, if_false, false_or]
  cases isPathB a.1 <;> cases isPathB a.2 <;> rfl
end Go.Proofs.YtafalbofjmfbnaaDoor
set_option linter.unusedVariables false
set_option linter.unusedSimpArgs false
namespace Go.Proofs.YtafalbofjmfbnaaDoor
open Go Go.Proofs.YtafalbofjmfbnaaDoor.Eng
theorem isWhole_some {s : ByteArray} (hs : s.size ≤ BIG) : ∃ b, script_IsWhole.f s = some b := by
 have hb : BIG = 140737488355328 := rfl
 have hc : ∀ p : ByteArray, (cutP s p).1.size ≤ s.size := fun p => by
  unfold cutP
  split
  ·show (s.extract _ _).size ≤ _; rw [extract_size]; omega
  ·exact Nat.le_refl _
 have hcc : ∀ t : ByteArray, t.size ≤ s.size → (cut58 t).1.size ≤ s.size ∧ (cut58 t).2.1.size ≤ s.size := fun t ht => by
  unfold cut58
  split
  ·constructor
   ·show (t.extract _ _).size ≤ _; rw [extract_size]; omega
   ·show (t.extract _ _).size ≤ _; rw [extract_size]; omega
  ·exact ⟨ht, Nat.zero_le _⟩
 have hw : ∀ a : ByteArray × ByteArray, a.1.size ≤ s.size → a.2.size ≤ s.size → ∃ t, script_Whole.f a = some t := fun a h1 h2 => by
  unfold script_Whole.f
  have e1 : bs_47_47.size = 2 := rfl
  have e2 : bs_58.size = 1 := rfl
  simp only [ByteArray.size_append, e1, e2]
  rw [ck_pos (by omega), ck_pos (by omega), ck_pos (by omega)]
  exact ⟨_, rfl⟩
 have hfin : ∀ r : (ByteArray × ByteArray) × Int, r.1.1.size ≤ s.size → r.1.2.size ≤ s.size → ∃ b, (ob (some r) fun r1 => (cb (decide (r1.2 = (0 : Int))) (ob (script_Whole.f r1.1) fun r2 => (some (decide (r2 = s)))) (some false))) = some b := fun r h1 h2 => by
  simp only [ob_s, cb_dec]
  split
  ·obtain ⟨t, ht⟩ := hw r.1 h1 h2
   rw [ht]; exact ⟨_, rfl⟩
  ·exact ⟨_, rfl⟩
 have hr : ∃ r, script_ReadLabel.f s bs_ = some r ∧ r.1.1.size ≤ s.size ∧ r.1.2.size ≤ s.size := by
  unfold script_ReadLabel.f
  have h1 := hc bs_47_47
  have h2 := hc bs_58
  simp only [decide_true, Bool.not_true, cb_f, cutPrefix_eq, ob_s]
  have fin : ∀ a : ByteArray × ByteArray, a.1.size ≤ s.size → a.2.size ≤ s.size → ∃ r : (ByteArray × ByteArray) × Int, (ob (script_CheckLabel.f a) fun r14 => (cb (!decide (r14 = (0 : Int))) (some ((bs_, bs_), (10 : Int))) (some (a, (0 : Int))))) = some r ∧ r.1.1.size ≤ s.size ∧ r.1.2.size ≤ s.size := fun a g1 g2 => by
   rw [checkLabel_eq, ob_s, cb_not, cb_dec]
   split
   ·exact ⟨_, rfl, g1, g2⟩
   ·exact ⟨_, rfl, Nat.zero_le _, Nat.zero_le _⟩
  cases (cutP s bs_47_47).2 with
  | true =>
   obtain ⟨g1, g2⟩ := hcc _ h1
   simp only [cb_t, cut_eq (s := (cutP s bs_47_47).1) (by omega), ob_s]
   cases (cut58 (cutP s bs_47_47).1).2.2 with
   | true => exact fin _ g1 g2
   | false =>
    obtain ⟨t, t1, t2⟩ := last_some (s := (cut58 (cutP s bs_47_47).1).1) (by omega)
    simp only [Bool.not_false, cb_t, t1, ob_s]
    exact fin ((cut58 (cutP s bs_47_47).1).1, t) g1 (by show t.size ≤ _; omega)
  | false =>
   simp only [cb_f]
   cases (cutP s bs_58).2 with
   | true => exact fin (bs_, (cutP s bs_58).1) (Nat.zero_le _) h2
   | false => exact fin (bs_, bs_) (Nat.zero_le _) (Nat.zero_le _)
 obtain ⟨r, h1, h2, h3⟩ := hr
 unfold script_IsWhole.f
 rw [h1]
 exact hfin r h2 h3
theorem contS (l : List ByteArray) (hl : l.length ≤ 1000000000) (x : ByteArray) : ∃ r : Int, slices_Index_string_string.f l x = some r ∧ ((r = -1 ∧ x ∉ l) ∨ ∃ k : Nat, r = k ∧ ∃ h : k < l.length, l[k] = x ∧ ∀ j : Nat, ∀ h : j < k, l[j]'(by omega) ≠ x) := by
 have go : ∀ (n k : Nat), l.length - k = n → (∀ j : Nat, ∀ h : j < l.length, j < k → l[j] ≠ x) → ∃ r, slices_Index_string_string.l0 l x (l.length : Int) (k : Int) = some r ∧ ((r = .inr () ∧ x ∉ l.drop k) ∨ ∃ i : Nat, r = .inl (i : Int) ∧ ∃ h : i < l.length, l[i] = x ∧ ∀ j : Nat, ∀ h : j < i, l[j]'(by omega) ≠ x) := by
  intro n
  induction n with
  | zero =>
   intro k hn hb
   refine ⟨.inr (), loopX_done ?_, .inl ⟨rfl, by rw [List.drop_eq_nil_of_le (by omega)]; simp⟩⟩
   simp only [slices_Index_string_string.s0, cb_dec]
   rw [if_neg (by omega)]
  | succ n ih =>
   intro k hn hb
   have hlt : k < l.length := by omega
   by_cases e : x = l[k]
   ·refine ⟨.inl (k : Int), loopX_done ?_, .inr ⟨k, rfl, hlt, e.symm, fun j hj => hb j (by omega) hj⟩⟩
    simp only [slices_Index_string_string.s0, cb_dec, rd_lt hlt]
    rw [if_pos (by omega), ck_pos (by omega), if_pos e]
   ·obtain ⟨r, h1, h2⟩ := ih (k + 1) (by omega) (fun j hj hjk => by
     rcases Nat.lt_or_ge j k with h | h
     ·exact hb j hj h
     ·have : j = k := by omega
      subst this
      exact fun h => e h.symm)
    refine ⟨r, (loopX_next ?_).trans h1, ?_⟩
    ·simp only [slices_Index_string_string.s0, cb_dec, rd_lt hlt]
     rw [if_pos (by omega), ck_pos (by omega), if_neg e, ck_in (by omega) (by omega)]
     rfl
    ·rcases h2 with ⟨h2, h3⟩ | h2
     ·refine .inl ⟨h2, fun hm => ?_⟩
      rw [List.drop_eq_getElem_cons hlt] at hm
      rcases List.mem_cons.1 hm with h | h
      ·exact e h
      ·exact h3 h
     ·exact .inr h2
 obtain ⟨r, h1, h2⟩ := go l.length 0 (by omega) (fun j _ hj => absurd hj (Nat.not_lt_zero _))
 rw [show ((0 : Nat) : Int) = 0 from rfl] at h1
 unfold slices_Index_string_string.f
 simp only [h1, ob_s]
 rcases h2 with ⟨rfl, h3⟩ | ⟨i, rfl, h3⟩
 ·exact ⟨-1, rfl, .inl ⟨rfl, by simpa using h3⟩⟩
 ·exact ⟨i, rfl, .inr ⟨i, rfl, h3⟩⟩
theorem isSmall_eq (c : UInt8) : ∃ b, script_isSmall.f c = some b := by
 unfold script_isSmall.f
 rw [cb_dec]; split <;> exact ⟨_, rfl⟩
theorem isDigit_eq (c : UInt8) : ∃ b, script_isDigit.f c = some b := by
 unfold script_isDigit.f
 rw [cb_dec]; split <;> exact ⟨_, rfl⟩
theorem isName_some {s : ByteArray} : ∃ b, script_IsName.f s = some b := by
 have hl := size_list s
 unfold script_IsName.f
 simp only [cb_dec]
 by_cases h1 : ((s.size : Nat) : Int) < 1
 ·rw [if_pos h1]; exact ⟨_, rfl⟩
 ·by_cases h2 : (40 : Int) < ((s.size : Nat) : Int)
  ·rw [if_neg h1, if_pos h2]; exact ⟨_, rfl⟩
  ·rw [if_neg h1, if_neg h2, ck_pos (by omega)]
   obtain ⟨b, hb⟩ := isSmall_eq (bt s 0)
   rw [hb, ob_s]
   cases b with
   | false => exact ⟨_, rfl⟩
   | true =>
    have go : ∀ (n k : Nat), s.size - k = n → ∃ r, script_IsName.l0 s (s.size : Int) (k : Int) = some r := by
     intro n
     induction n with
     | zero =>
      intro k hn
      refine ⟨.inr (), loopX_done ?_⟩
      simp only [script_IsName.s0, cb_dec]
      rw [if_neg (by omega)]
     | succ n ih =>
      intro k hn
      obtain ⟨r, hr⟩ := ih (k + 1) (by omega)
      have c0 : 0 ≤ (k : Int) ∧ (k : Int) < ((s.size : Nat) : Int) := by omega
      have c1 : InR ((k : Int) + 1) := ⟨by omega, by omega⟩
      obtain ⟨b1, hb1⟩ := isSmall_eq (bt s (k : Int))
      obtain ⟨b2, hb2⟩ := isDigit_eq (bt s (k : Int))
      by_cases hstop : b1 = false ∧ b2 = false ∧ ¬ ((UInt8.toNat (bt s (k : Int)) : Nat) : Int) = 95
      ·refine ⟨.inl false, loopX_done ?_⟩
       simp only [script_IsName.s0, cb_dec, cb_not, if_pos c0.2, ck_pos c0, hb1, hb2, ob_s, hstop.1, hstop.2.1, cb_f, if_neg hstop.2.2]
      ·refine ⟨r, (loopX_next ?_).trans hr⟩
       simp only [script_IsName.s0, cb_dec, cb_not, if_pos c0.2, ck_pos c0, ck_pos c1, hb1, hb2, ob_s]
       cases b1 with
       | true => rfl
       | false =>
        cases b2 with
        | true => rfl
        | false =>
         have : ((UInt8.toNat (bt s (k : Int)) : Nat) : Int) = 95 := Classical.byContradiction fun h => hstop ⟨rfl, rfl, h⟩
         simp only [cb_f, if_pos this]; rfl
    obtain ⟨r, hr⟩ := go s.size 0 (by omega)
    rw [show ((0 : Nat) : Int) = 0 from rfl] at hr
    simp only [Bool.not_true, cb_f, hr, ob_s]
    cases r with
    | inl b => exact ⟨_, rfl⟩
    | inr u =>
     obtain ⟨r, h1, _⟩ := contS [bs_109_97_99_114_111, bs_102_111_114, bs_105_110, bs_105_102, bs_101_108_115_101, bs_117_115_101, bs_102_105_108_101_115, bs_99_104_111_111_115_101] (by decide) s
     simp only [caseS_r, script_words.f, ob_s, slices_Contains_string_string.f, h1]
     exact ⟨_, rfl⟩
def cmpS (a b : ByteArray) : Int := Lib.compareBytes a.data.toList b.data.toList
theorem cmpL_less : ∀ a b : List UInt8, (Lib.compareBytes a b < 0 ↔ Op.bytesLess a b = true)
 | [], [] => by simp [Lib.compareBytes, Op.bytesLess]
 | [], _ :: _ => by simp [Lib.compareBytes, Op.bytesLess]
 | _ :: _, [] => by simp [Lib.compareBytes, Op.bytesLess]
 | x :: a, y :: b => by
  have ih := cmpL_less a b
  unfold Lib.compareBytes Op.bytesLess
  by_cases h1 : x < y
  ·simp [h1]
  ·by_cases h2 : y < x
   ·have h3 : ¬ x = y := fun e => by subst e; exact absurd h2 (UInt8.lt_irrefl x)
    simp [h1, h2, h3]
   ·have h3 : x = y := UInt8.le_antisymm (UInt8.not_lt.1 h2) (UInt8.not_lt.1 h1)
    subst h3
    simp only [h1, if_false, decide_false, Bool.false_or, beq_self_eq_true, Bool.true_and]
    exact ih
theorem cmpL_eq0 : ∀ a b : List UInt8, (Lib.compareBytes a b = 0 ↔ a = b)
 | [], [] => by simp [Lib.compareBytes]
 | [], _ :: _ => by simp [Lib.compareBytes]
 | _ :: _, [] => by simp [Lib.compareBytes]
 | x :: a, y :: b => by
  have ih := cmpL_eq0 a b
  unfold Lib.compareBytes
  by_cases h1 : x < y
  ·have h3 : ¬ x = y := fun e => by subst e; exact absurd h1 (UInt8.lt_irrefl x)
   simp [h1, h3]
  ·by_cases h2 : y < x
   ·have h3 : ¬ x = y := fun e => by subst e; exact absurd h2 (UInt8.lt_irrefl x)
    simp [h1, h2, h3]
   ·have h3 : x = y := UInt8.le_antisymm (UInt8.not_lt.1 h2) (UInt8.not_lt.1 h1)
    subst h3
    simp only [h1, if_false, List.cons.injEq, true_and]
    exact ih
theorem cmpL_swap : ∀ a b : List UInt8, Lib.compareBytes b a = - Lib.compareBytes a b
 | [], [] => rfl
 | [], _ :: _ => rfl
 | _ :: _, [] => rfl
 | x :: a, y :: b => by
  have ih := cmpL_swap a b
  unfold Lib.compareBytes
  by_cases h1 : x < y
  ·have h2 : ¬ y < x := UInt8.not_lt.2 (UInt8.le_of_lt h1)
   simp [h1, h2]
  ·by_cases h2 : y < x
   ·simp [h1, h2]
   ·simp only [h1, h2, if_false]; exact ih
theorem cmpL_trans : ∀ a b c : List UInt8, Lib.compareBytes a b < 0 → Lib.compareBytes b c < 0 → Lib.compareBytes a c < 0
 | [], [], c, h, _ => by simp [Lib.compareBytes] at h
 | [], _ :: _, [], _, h => by simp [Lib.compareBytes] at h
 | [], _ :: _, _ :: _, _, _ => by simp [Lib.compareBytes]
 | _ :: _, [], c, h, _ => by simp [Lib.compareBytes] at h
 | _ :: _, _ :: _, [], _, h => by simp [Lib.compareBytes] at h
 | x :: a, y :: b, z :: c, h, h' => by
  have ih := cmpL_trans a b c
  unfold Lib.compareBytes at h h' ⊢
  by_cases h1 : x < y
  ·by_cases h2 : y < z
   ·simp [UInt8.lt_trans h1 h2]
   ·by_cases h3 : z < y
    ·simp [h2, h3] at h'
    ·have e : y = z := UInt8.le_antisymm (UInt8.not_lt.1 h3) (UInt8.not_lt.1 h2)
     subst e; simp [h1]
  ·by_cases h2 : y < x
   ·simp [h1, h2] at h
   ·have e : x = y := UInt8.le_antisymm (UInt8.not_lt.1 h2) (UInt8.not_lt.1 h1)
    subst e
    by_cases h3 : x < z
    ·simp [h3]
    ·by_cases h4 : z < x
     ·simp [h3, h4] at h'
     ·simp only [h1, if_false] at h
      simp only [h3, h4, if_false] at h' ⊢
      exact ih h h'
theorem bless_iff (a b : ByteArray) : bless a b = true ↔ cmpS a b < 0 := by
 unfold bless cmpS
 rw [ByteArray.toList_eq, ByteArray.toList_eq]
 exact (cmpL_less _ _).symm
theorem cmpS_eq0 (a b : ByteArray) : cmpS a b = 0 ↔ a = b := by
 unfold cmpS
 rw [cmpL_eq0]
 exact ⟨fun h => ByteArray.ext (Array.toList_inj.1 h), fun h => by rw [h]⟩
theorem cmpS_swap (a b : ByteArray) : cmpS b a = - cmpS a b := cmpL_swap _ _
theorem cmpS_trans {a b c : ByteArray} (h : cmpS a b < 0) (h' : cmpS b c < 0) : cmpS a c < 0 := cmpL_trans _ _ _ h h'
theorem leq_iff (a b : ByteArray) : (bless a b || decide (a = b)) = decide (cmpS a b ≤ 0) := by
 have h1 := bless_iff a b
 have h2 := cmpS_eq0 a b
 by_cases h : cmpS a b < 0
 ·rw [h1.2 h, Bool.true_or, decide_eq_true (by omega)]
 ·have hf : bless a b = false := by
   cases hb : bless a b with
   | false => rfl
   | true => exact absurd (h1.1 hb) h
  rw [hf, Bool.false_or]
  exact decide_eq_decide.2 ⟨fun e => by rw [h2.2 e]; exact Int.le_refl _, fun e => h2.1 (by omega)⟩
def Rising (l : List ByteArray) : Prop := ∀ i j : Nat, ∀ h : j < l.length, ∀ h' : i < j, cmpS (l[i]'(by omega)) l[j] < 0
theorem rising_step {l : List ByteArray} (h : ∀ k : Nat, ∀ hk : k + 1 < l.length, cmpS (l[k]'(by omega)) l[k + 1] < 0) : Rising l := by
 intro i j
 induction j with
 | zero => intro h h'; omega
 | succ j ih =>
  intro hj hij
  rcases Nat.lt_or_ge i j with h1 | h1
  ·exact cmpS_trans (ih (by omega) h1) (h j hj)
  ·have : i = j := by omega
   subst this
   exact h i hj
theorem Rising.inj {l : List ByteArray} (h : Rising l) {i j : Nat} (hi : i < l.length) (hj : j < l.length) (e : l[i] = l[j]) : i = j := by
 rcases Nat.lt_trichotomy i j with h1 | h1 | h1
 ·have := h i j hj h1
  rw [e] at this
  have h0 := (cmpS_eq0 l[j] l[j]).2 rfl
  omega
 ·exact h1
 ·have := h j i hi h1
  rw [e] at this
  have h0 := (cmpS_eq0 l[j] l[j]).2 rfl
  omega
theorem riseLoop {l : List ByteArray} (hl : l.length ≤ 1000000000) (form : ByteArray → Option Bool) (hform : ∀ x ∈ l, ∃ b, form x = some b) (step : Int → Option (Int ⊕ (Int ⊕ Unit)))
  (hend : ∀ k : Nat, l.length ≤ k → step k = some (.inr (.inr ())))
  (hno : ∀ k : Nat, ∀ h : k < l.length, form l[k] = some false → step k = some (.inr (.inl 3)))
  (hbad : ∀ k : Nat, ∀ h : k + 1 < l.length, form l[k + 1] = some true → cmpS l[k + 1] (l[k]'(by omega)) ≤ 0 → step ((k + 1 : Nat) : Int) = some (.inr (.inl 8)))
  (hyes : ∀ k : Nat, ∀ h : k < l.length, form l[k] = some true → (∀ h0 : 0 < k, ¬ cmpS l[k] (l[k - 1]'(by omega)) ≤ 0) → step k = some (.inl ((k : Int) + 1))) :
  ∀ (n k : Nat), l.length - k = n → (∃ f : Int, f ≠ 0 ∧ loopX step (k : Int) = some (.inl f)) ∨ (loopX step (k : Int) = some (.inr ()) ∧ (∀ x ∈ l.drop k, form x = some true) ∧ ∀ i : Nat, ∀ h : i + 1 < l.length, k ≤ i + 1 → cmpS (l[i]'(by omega)) l[i + 1] < 0) := by
 intro n
 induction n with
 | zero =>
  intro k hn
  refine .inr ⟨loopX_done (hend k (by omega)), fun x hx => ?_, fun i h hki => by omega⟩
  rw [List.drop_eq_nil_of_le (by omega)] at hx
  cases hx
 | succ n ih =>
  intro k hn
  have hlt : k < l.length := by omega
  obtain ⟨b, hb⟩ := hform _ (List.getElem_mem hlt)
  cases b with
  | false => exact .inl ⟨3, by decide, loopX_done (hno k hlt hb)⟩
  | true =>
   by_cases hbd : ∃ h0 : 0 < k, cmpS l[k] (l[k - 1]'(by omega)) ≤ 0
   ·obtain ⟨h0, h1⟩ := hbd
    obtain ⟨k', rfl⟩ : ∃ k', k = k' + 1 := ⟨k - 1, by omega⟩
    exact .inl ⟨8, by decide, loopX_done (hbad k' hlt hb h1)⟩
   ·have hs := hyes k hlt hb (fun h0 h => hbd ⟨h0, h⟩)
    rcases ih (k + 1) (by omega) with ⟨f, h1, h2⟩ | ⟨h1, h2, h3⟩
    ·exact .inl ⟨f, h1, (loopX_next hs).trans h2⟩
    ·refine .inr ⟨(loopX_next hs).trans h1, fun x hx => ?_, fun i hi hki => ?_⟩
     ·rw [List.drop_eq_getElem_cons hlt] at hx
      rcases List.mem_cons.1 hx with rfl | hx
      ·exact hb
      ·exact h2 x hx
     ·rcases Nat.lt_or_ge i k with h4 | h4
      ·have e : k = i + 1 := by omega
       subst e
       have h5 : ¬ cmpS l[i + 1] (l[i]'(by omega)) ≤ 0 := fun h => hbd ⟨by omega, h⟩
       have := cmpS_swap l[i + 1] (l[i]'(by omega))
       omega
      ·exact h3 i hi (by omega)
end Go.Proofs.YtafalbofjmfbnaaDoor
set_option linter.unusedVariables false
set_option linter.unusedSimpArgs false
namespace Go.Proofs.YtafalbofjmfbnaaDoor
open Go Go.Proofs.YtafalbofjmfbnaaDoor.Eng
theorem hasSuffix_some (s p : ByteArray) (hs : s.size ≤ BIG) : ∃ b, internal_stringslite_HasSuffix.f s p = some b ∧ (b = true → p.size ≤ s.size) := by
 have hb : BIG = 140737488355328 := rfl
 unfold internal_stringslite_HasSuffix.f
 simp only [cb_dec]
 by_cases h : ((p.size : Nat) : Int) ≤ ((s.size : Nat) : Int)
 ·rw [if_pos h, ck_in (by omega) (by omega), ck_pos (by omega)]
  exact ⟨_, rfl, fun _ => by omega⟩
 ·rw [if_neg h]; exact ⟨_, rfl, fun h => by cases h⟩
theorem isPattern_some {s : ByteArray} (hs : s.size ≤ BIG) : ∃ b, graph_IsPattern.f s = some b := by
 have hb : BIG = 140737488355328 := rfl
 have hc : (cutP s bs_47_47).1.size ≤ s.size := by
  unfold cutP
  split
  ·show (s.extract _ _).size ≤ _; rw [extract_size]; omega
  ·exact Nat.le_refl _
 unfold graph_IsPattern.f strings_TrimSuffix.f internal_stringslite_TrimSuffix.f strings_HasSuffix.f
 simp only [cutPrefix_eq, ob_s, cb_dec, cb_not]
 cases (cutP s bs_47_47).2 with
 | false => exact ⟨_, rfl⟩
 | true =>
  rw [cb_t]
  by_cases e1 : (cutP s bs_47_47).1 = bs_
  ·rw [if_pos e1]; exact ⟨_, rfl⟩
  ·rw [if_neg e1]
   by_cases e2 : (cutP s bs_47_47).1 = bs_46_46_46
   ·rw [if_pos e2]; exact ⟨_, rfl⟩
   ·rw [if_neg e2]
    obtain ⟨b, h1, h2⟩ := hasSuffix_some (cutP s bs_47_47).1 bs_47_46_46_46 (by omega)
    have fin : ∀ t : ByteArray, t.size ≤ BIG → ∃ b, (ob (blob_IsPath.f t) fun r3 => cb r3 (if t = bs_46_46_46 then some false else ob (ob (internal_stringslite_HasSuffix.f t bs_47_46_46_46) fun r1 => some r1) fun r4 => some (!r4)) (some false)) = some b := fun t ht => by
     rw [isPath_eq, ob_s]
     cases isPathB t with
     | false => exact ⟨_, rfl⟩
     | true =>
      rw [cb_t]
      split
      ·exact ⟨_, rfl⟩
      ·obtain ⟨b, h1, _⟩ := hasSuffix_some t bs_47_46_46_46 ht
       rw [h1]; exact ⟨_, rfl⟩
    rw [h1, ob_s]
    cases b with
    | false => exact fin _ (by omega)
    | true =>
     have := h2 rfl
     simp only [cb_t]
     rw [ck_in (by omega) (by omega), ck_pos (by omega)]
     refine fin _ ?_
     rw [extract_size]; omega
end Go.Proofs.YtafalbofjmfbnaaDoor
set_option linter.unusedVariables false
set_option linter.unusedSimpArgs false
namespace Go.Proofs.YtafalbofjmfbnaaDoor
open Go Go.Proofs.YtafalbofjmfbnaaDoor.Eng
theorem ck_rfl {β α : Type} {x : α} {a : Option β} : ck (x = x) a = a := ck_pos rfl
theorem risingW' {l : List ByteArray} (hl : l.length ≤ 1000000000) (hs : ∀ x ∈ l, x.size ≤ BIG) : (∃ f : Int, f ≠ 0 ∧ graph_rising_f136.f l () = some f) ∨ (graph_rising_f136.f l () = some 0 ∧ (∀ x ∈ l, script_IsWhole.f x = some true) ∧ Rising l) := by
 have h := riseLoop hl script_IsWhole.f (fun x hx => isWhole_some (hs x hx)) (fun x => graph_rising_f136.s0 l l (l.length : Int) x) (fun k hk => by
   simp only [graph_rising_f136.s0, cb_dec]; rw [if_neg (by omega)]) (fun k hk hf => by
   simp only [graph_rising_f136.s0, cb_dec, rd_lt hk, hf, ob_s]; rw [if_pos (by omega), ck_pos (by omega)]; rfl) (fun k hk hf hc => by
   have hk' : k < l.length := by omega
   have e : ((k + 1 : Nat) : Int) - 1 = (k : Int) := by omega
   simp only [graph_rising_f136.s0, cb_dec, rd_lt hk, hf, ob_s, Bool.not_true, cb_f, e, rd_lt hk', leq_iff]
   rw [if_pos (by omega), ck_pos (by omega), if_pos (by omega), ck_in (by omega) (by omega), ck_pos (by omega), if_pos hc]) (fun k hk hf hc => by
   rcases Nat.eq_zero_or_pos k with h0 | h0
   ·subst h0
    simp only [graph_rising_f136.s0, cb_dec, rd_lt hk, hf, ob_s, Bool.not_true, cb_f]
    rw [if_pos (by omega), ck_pos (by omega), if_neg (by omega), ck_in (by omega) (by omega)]
   ·obtain ⟨k', rfl⟩ : ∃ k', k = k' + 1 := ⟨k - 1, by omega⟩
    have hk' : k' < l.length := by omega
    have e : ((k' + 1 : Nat) : Int) - 1 = (k' : Int) := by omega
    have hc' := hc h0
    simp only [Nat.add_sub_cancel] at hc'
    simp only [graph_rising_f136.s0, cb_dec, rd_lt hk, hf, ob_s, Bool.not_true, cb_f, e, rd_lt hk', leq_iff]
    rw [if_pos (by omega), ck_pos (by omega), if_pos (by omega), ck_in (by omega) (by omega), ck_pos (by omega), if_neg hc', ck_in (by omega) (by omega)]) l.length 0 (by omega)
 unfold graph_rising_f136.f
 show (∃ f : Int, f ≠ 0 ∧ ob (loopX (fun x => graph_rising_f136.s0 l l (l.length : Int) x) ((0 : Nat) : Int)) _ = _) ∨ (ob (loopX (fun x => graph_rising_f136.s0 l l (l.length : Int) x) ((0 : Nat) : Int)) _ = _ ∧ _)
 rcases h with ⟨f, h1, h2⟩ | ⟨h1, h2, h3⟩
 ·rw [h2]; exact .inl ⟨f, h1, rfl⟩
 ·rw [h1]; exact .inr ⟨rfl, fun x hx => h2 x (by simpa using hx), rising_step fun k hk => h3 k hk (by omega)⟩
theorem risingW {l : List ByteArray} (hl : l.length ≤ 1000000000) (hs : ∀ x ∈ l, x.size ≤ BIG) : ∃ f, graph_rising_f136.f l () = some f ∧ (f = 0 → Rising l) := by
 rcases risingW' hl hs with ⟨f, h1, h2⟩ | ⟨h1, _, h2⟩
 ·exact ⟨f, h2, fun h => absurd h h1⟩
 ·exact ⟨0, h1, fun _ => h2⟩
theorem risingP {l : List ByteArray} (hl : l.length ≤ 1000000000) : ∃ f, graph_rising_f72.f l () = some f := by
 have h := riseLoop hl blob_IsPath.f (fun x hx => ⟨_, isPath_eq x⟩) (fun x => graph_rising_f72.s0 l l (l.length : Int) x) (fun k hk => by
   simp only [graph_rising_f72.s0, cb_dec]; rw [if_neg (by omega)]) (fun k hk hf => by
   simp only [graph_rising_f72.s0, cb_dec, rd_lt hk, hf, ob_s]; rw [if_pos (by omega), ck_pos (by omega)]; rfl) (fun k hk hf hc => by
   have hk' : k < l.length := by omega
   have e : ((k + 1 : Nat) : Int) - 1 = (k : Int) := by omega
   simp only [graph_rising_f72.s0, cb_dec, rd_lt hk, hf, ob_s, Bool.not_true, cb_f, e, rd_lt hk', leq_iff]
   rw [if_pos (by omega), ck_pos (by omega), if_pos (by omega), ck_in (by omega) (by omega), ck_pos (by omega), if_pos hc]) (fun k hk hf hc => by
   rcases Nat.eq_zero_or_pos k with h0 | h0
   ·subst h0
    simp only [graph_rising_f72.s0, cb_dec, rd_lt hk, hf, ob_s, Bool.not_true, cb_f]
    rw [if_pos (by omega), ck_pos (by omega), if_neg (by omega), ck_in (by omega) (by omega)]
   ·obtain ⟨k', rfl⟩ : ∃ k', k = k' + 1 := ⟨k - 1, by omega⟩
    have hk' : k' < l.length := by omega
    have e : ((k' + 1 : Nat) : Int) - 1 = (k' : Int) := by omega
    have hc' := hc h0
    simp only [Nat.add_sub_cancel] at hc'
    simp only [graph_rising_f72.s0, cb_dec, rd_lt hk, hf, ob_s, Bool.not_true, cb_f, e, rd_lt hk', leq_iff]
    rw [if_pos (by omega), ck_pos (by omega), if_pos (by omega), ck_in (by omega) (by omega), ck_pos (by omega), if_neg hc', ck_in (by omega) (by omega)]) l.length 0 (by omega)
 unfold graph_rising_f72.f
 show ∃ f, ob (loopX (fun x => graph_rising_f72.s0 l l (l.length : Int) x) ((0 : Nat) : Int)) _ = _
 rcases h with ⟨f, h1, h2⟩ | ⟨h1, _, h3⟩
 ·rw [h2]; exact ⟨f, rfl⟩
 ·rw [h1]; exact ⟨0, rfl⟩
theorem risingN {l : List ByteArray} (hl : l.length ≤ 1000000000) (hs : ∀ x ∈ l, x.size ≤ BIG) : ∃ f, graph_rising_f139.f l () = some f := by
 have h := riseLoop hl graph_IsPattern.f (fun x hx => isPattern_some (hs x hx)) (fun x => graph_rising_f139.s0 l l (l.length : Int) x) (fun k hk => by
   simp only [graph_rising_f139.s0, cb_dec]; rw [if_neg (by omega)]) (fun k hk hf => by
   simp only [graph_rising_f139.s0, cb_dec, rd_lt hk, hf, ob_s]; rw [if_pos (by omega), ck_pos (by omega)]; rfl) (fun k hk hf hc => by
   have hk' : k < l.length := by omega
   have e : ((k + 1 : Nat) : Int) - 1 = (k : Int) := by omega
   simp only [graph_rising_f139.s0, cb_dec, rd_lt hk, hf, ob_s, Bool.not_true, cb_f, e, rd_lt hk', leq_iff]
   rw [if_pos (by omega), ck_pos (by omega), if_pos (by omega), ck_in (by omega) (by omega), ck_pos (by omega), if_pos hc]) (fun k hk hf hc => by
   rcases Nat.eq_zero_or_pos k with h0 | h0
   ·subst h0
    simp only [graph_rising_f139.s0, cb_dec, rd_lt hk, hf, ob_s, Bool.not_true, cb_f]
    rw [if_pos (by omega), ck_pos (by omega), if_neg (by omega), ck_in (by omega) (by omega)]
   ·obtain ⟨k', rfl⟩ : ∃ k', k = k' + 1 := ⟨k - 1, by omega⟩
    have hk' : k' < l.length := by omega
    have e : ((k' + 1 : Nat) : Int) - 1 = (k' : Int) := by omega
    have hc' := hc h0
    simp only [Nat.add_sub_cancel] at hc'
    simp only [graph_rising_f139.s0, cb_dec, rd_lt hk, hf, ob_s, Bool.not_true, cb_f, e, rd_lt hk', leq_iff]
    rw [if_pos (by omega), ck_pos (by omega), if_pos (by omega), ck_in (by omega) (by omega), ck_pos (by omega), if_neg hc', ck_in (by omega) (by omega)]) l.length 0 (by omega)
 unfold graph_rising_f139.f
 show ∃ f, ob (loopX (fun x => graph_rising_f139.s0 l l (l.length : Int) x) ((0 : Nat) : Int)) _ = _
 rcases h with ⟨f, h1, h2⟩ | ⟨h1, _, h3⟩
 ·rw [h2]; exact ⟨f, rfl⟩
 ·rw [h1]; exact ⟨0, rfl⟩
def szNd (n : Nd) : Prop := n.1.size ≤ BIG ∧ (∀ x ∈ n.2.2.1, x.size ≤ BIG) ∧ (∀ x ∈ n.2.2.2.1, x.size ≤ BIG) ∧ ∀ x ∈ n.2.2.2.2.1, x.size ≤ BIG
theorem checkNode_some {n : Nd} (h : szNd n) : ∃ f, graph_checkNode.f n = some f ∧ (f = 0 → n.2.2.1.length ≤ 300 ∧ Rising n.2.2.1 ∧ 0 ≤ n.2.2.2.2.2 ∧ n.2.2.2.2.2 ≤ 1000000 ∧ n.2.2.2.1.length ≤ 1000) := by
 unfold graph_checkNode.f
 obtain ⟨b1, h1⟩ := isWhole_some h.1
 obtain ⟨b2, h2⟩ := isName_some (s := n.2.1)
 simp only [h1, h2, ob_s, cb_dec, cb_not]
 cases b1 with
 | false => exact ⟨3, rfl, fun h => by cases h⟩
 | true =>
  cases b2 with
  | false => exact ⟨5, rfl, fun h => by cases h⟩
  | true =>
   simp only [cb_t]
   by_cases c1 : (300 : Int) < ((n.2.2.1.length : Nat) : Int)
   ·rw [if_pos c1]; exact ⟨2, rfl, fun h => by cases h⟩
   ·rw [if_neg c1]
    obtain ⟨f1, g1, g2⟩ := risingW (l := n.2.2.1) (by omega) h.2.1
    rw [g1, ob_s]
    by_cases e1 : f1 = 0
    ·rw [if_pos e1]
     by_cases c2 : (1000 : Int) < ((n.2.2.2.1.length : Nat) : Int)
     ·rw [if_pos c2]; exact ⟨2, rfl, fun h => by cases h⟩
     ·rw [if_neg c2]
      obtain ⟨f2, g3⟩ := risingP (l := n.2.2.2.1) (by omega)
      rw [g3, ob_s]
      by_cases e2 : f2 = 0
      ·rw [if_pos e2]
       by_cases c3 : (50 : Int) < ((n.2.2.2.2.1.length : Nat) : Int)
       ·rw [if_pos c3]; exact ⟨2, rfl, fun h => by cases h⟩
       ·rw [if_neg c3]
        obtain ⟨f3, g4⟩ := risingN (l := n.2.2.2.2.1) (by omega) h.2.2.2
        rw [g4, ob_s]
        by_cases e3 : f3 = 0
        ·rw [if_pos e3]
         by_cases c4 : n.2.2.2.2.2 < 0
         ·rw [if_pos c4]; exact ⟨1, rfl, fun h => by cases h⟩
         ·rw [if_neg c4]
          by_cases c5 : 1000000 < n.2.2.2.2.2
          ·rw [if_pos c5]; exact ⟨1, rfl, fun h => by cases h⟩
          ·rw [if_neg c5]; exact ⟨0, rfl, fun _ => ⟨by omega, g2 e1, by omega, by omega, by omega⟩⟩
        ·rw [if_neg e3]; exact ⟨f3, rfl, fun h => absurd h e3⟩
      ·rw [if_neg e2]; exact ⟨f2, rfl, fun h => absurd h e2⟩
    ·rw [if_neg e1]; exact ⟨f1, rfl, fun h => absurd h e1⟩
theorem at1_eq (n : Nd) (s : ByteArray) : graph_at_1.f n s = some (cmpS n.1 s) := rfl
def labs (g : List Nd) : List ByteArray := g.map (·.1)
theorem labs_get {g : List Nd} {k : Nat} (h : k < g.length) : (labs g)[k]'(by unfold labs; simpa using h) = g[k].1 := by simp [labs]
theorem half {a b : Nat} (ha : a ≤ 1000000) (hb : b ≤ 1000000) : IntKind.i64.wrap (Int.fdiv (IntKind.u64.wrap ((a : Int) + (b : Int))) (2 ^ min (Int.toNat (1 : Int)) (IntKind.bits .u64))) = ((a + b) / 2 : Nat) := by
 have e1 : IntKind.u64.wrap ((a : Int) + (b : Int)) = ((a + b : Nat) : Int) := by
  simp only [IntKind.wrap, IntKind.bits, IntKind.signed, Bool.false_and, Bool.false_eq_true, if_false]
  have e : (2 : Int) ^ 64 = 18446744073709551616 := by decide
  rw [e]; omega
 have e2 : (2 : Int) ^ min (Int.toNat (1 : Int)) (IntKind.bits .u64) = 2 := by decide
 rw [e1, e2]
 have e3 : Int.fdiv ((a + b : Nat) : Int) 2 = ((a + b) / 2 : Nat) := by
  rw [Int.fdiv_eq_ediv_of_nonneg _ (by decide)]; omega
 rw [e3]
 exact IntWalk.i64_in _ ⟨by omega, by omega⟩
theorem at_ok {g : List Nd} (hl : g.length ≤ 1000) (hr : Rising (labs g)) (s : ByteArray) : ∃ r, graph_at.f g s = some r ∧ ((r = -1 ∧ ∀ k : Nat, ∀ h : k < g.length, g[k].1 ≠ s) ∨ ∃ k : Nat, r = k ∧ ∃ h : k < g.length, g[k].1 = s) := by
 have go : ∀ (n a b : Nat), b - a = n → a ≤ b → b ≤ g.length → (∀ k : Nat, ∀ h : k < g.length, k < a → cmpS g[k].1 s < 0) → (∀ k : Nat, ∀ h : k < g.length, b ≤ k → ¬ cmpS g[k].1 s < 0) →
   ∃ c : Nat, slices_BinarySearchFunc_api_Node_api_Node_string_f141.l0 g s (a : Int) (b : Int) = some (c : Int) ∧ c ≤ g.length ∧ (∀ k : Nat, ∀ h : k < g.length, k < c → cmpS g[k].1 s < 0) ∧ (∀ k : Nat, ∀ h : k < g.length, c ≤ k → ¬ cmpS g[k].1 s < 0) := by
  intro n
  induction n using Nat.strongRecOn with
  | _ n ih =>
   intro a b hn hab hb h1 h2
   rcases Nat.lt_or_ge a b with hlt | hge
   ·have hm : (a + b) / 2 < g.length := by omega
    have hh := half (a := a) (b := b) (by omega) (by omega)
    have hmono : ∀ i j : Nat, ∀ hi : i < g.length, ∀ hj : j < g.length, i < j → cmpS g[i].1 g[j].1 < 0 := fun i j hi hj hij => by
     have := hr i j (by unfold labs; simpa using hj) hij
     rw [labs_get hi, labs_get hj] at this
     exact this
    by_cases hc : cmpS g[(a + b) / 2].1 s < 0
    ·obtain ⟨c, h3, h4⟩ := ih (b - ((a + b) / 2 + 1)) (by omega) ((a + b) / 2 + 1) b rfl (by omega) hb (fun k hk hka => by
      rcases Nat.lt_or_ge k ((a + b) / 2) with h | h
      ·exact cmpS_trans (hmono k _ hk hm h) hc
      ·have : k = (a + b) / 2 := by omega
       subst this; exact hc) h2
     refine ⟨c, (loopX_next ?_).trans h3, h4⟩
     simp only [slices_BinarySearchFunc_api_Node_api_Node_string_f141.s0, cb_dec, hh, rd_lt hm, at1_eq, ob_s]
     rw [if_pos (by omega), ck_in (by omega) (by omega), ck_pos (by omega), if_pos hc, ck_in (by omega) (by omega)]
     rfl
    ·obtain ⟨c, h3, h4⟩ := ih ((a + b) / 2 - a) (by omega) a ((a + b) / 2) rfl (by omega) (by omega) h1 (fun k hk hka => by
      intro h
      rcases Nat.lt_or_ge ((a + b) / 2) k with h5 | h5
      ·exact hc (cmpS_trans (hmono _ k hm hk h5) h)
      ·have : k = (a + b) / 2 := by omega
       subst this; exact hc h)
     refine ⟨c, (loopX_next ?_).trans h3, h4⟩
     simp only [slices_BinarySearchFunc_api_Node_api_Node_string_f141.s0, cb_dec, hh, rd_lt hm, at1_eq, ob_s]
     rw [if_pos (by omega), ck_in (by omega) (by omega), ck_pos (by omega), if_neg hc]
   ·have e : a = b := by omega
    subst e
    refine ⟨a, loopX_done ?_, hb, h1, h2⟩
    simp only [slices_BinarySearchFunc_api_Node_api_Node_string_f141.s0, cb_dec]
    rw [if_neg (by omega)]
 obtain ⟨c, h1, h2, h3, h4⟩ := go _ 0 g.length rfl (Nat.zero_le _) (Nat.le_refl _) (fun k _ h => absurd h (Nat.not_lt_zero _)) (fun k hk h => by omega)
 rw [show ((0 : Nat) : Int) = 0 from rfl] at h1
 unfold graph_at.f slices_BinarySearchFunc_api_Node_api_Node_string_f141.f
 simp only [h1, ob_s, cb_dec]
 by_cases hc : c < g.length
 ·rw [if_pos (by omega), ck_pos (by omega)]
  simp only [rd_lt hc, at1_eq, ob_s]
  by_cases h0 : cmpS g[c].1 s = 0
  ·simp only [h0, decide_true, Bool.not_true, cb_f]
   exact ⟨c, rfl, .inr ⟨c, rfl, hc, (cmpS_eq0 _ _).1 h0⟩⟩
  ·simp only [h0, decide_false, Bool.not_false, cb_t]
   refine ⟨-1, rfl, .inl ⟨rfl, fun k hk e => ?_⟩⟩
   have hz : cmpS g[k].1 s = 0 := (cmpS_eq0 _ _).2 e
   rcases Nat.lt_trichotomy k c with h | h | h
   ·have := h3 k hk h; omega
   ·subst h; exact h0 hz
   ·have h5 := hr c k (by unfold labs; simpa using hk) h
    rw [labs_get hc, labs_get hk, e] at h5
    exact h4 c hc (Nat.le_refl _) h5
 ·rw [if_neg (by omega)]
  simp only [ob_s, Bool.not_false, cb_t]
  refine ⟨-1, rfl, .inl ⟨rfl, fun k hk e => ?_⟩⟩
  have hz : cmpS g[k].1 s = 0 := (cmpS_eq0 _ _).2 e
  have := h3 k hk (by omega)
  omega
noncomputable def posI (g : List Nd) (s : ByteArray) : Int := (graph_at.f g s).getD (-1)
theorem pos_ok {g : List Nd} (hl : g.length ≤ 1000) (hr : Rising (labs g)) (s : ByteArray) : graph_at.f g s = some (posI g s) ∧ ((posI g s = -1 ∧ ∀ k : Nat, ∀ h : k < g.length, g[k].1 ≠ s) ∨ ∃ k : Nat, posI g s = k ∧ ∃ h : k < g.length, g[k].1 = s) := by
 obtain ⟨r, h1, h2⟩ := at_ok hl hr s
 have e : posI g s = r := by unfold posI; rw [h1]; rfl
 rw [e]
 exact ⟨h1, h2⟩
end Go.Proofs.YtafalbofjmfbnaaDoor
set_option linter.unusedVariables false
set_option linter.unusedSimpArgs false
namespace Go.Proofs.YtafalbofjmfbnaaDoor
open Go Go.Proofs.YtafalbofjmfbnaaDoor.Eng
theorem ck_tr {β : Type} {a : Option β} : ck True a = a := ck_pos trivial
noncomputable def depsA (g : List Nd) : List (List Int) := g.map fun n => n.2.2.1.map (posI g)
noncomputable def D (g : List Nd) (i : Nat) : List Int := (depsA g).getD i []
noncomputable def U (g : List Nd) (i k : Nat) : List Int := ((List.range i).filter fun i' => decide ((k : Int) ∈ D g i')).map fun x : Nat => (x : Int)
noncomputable def usersA (g : List Nd) : List (List Int) := (List.range g.length).map fun k => U g g.length k
theorem D_get {g : List Nd} {i : Nat} (h : i < g.length) : D g i = g[i].2.2.1.map (posI g) := by
 simp [D, depsA, List.getD, h]
theorem U_succ (g : List Nd) (i k : Nat) : U g (i + 1) k = U g i k ++ (if (k : Int) ∈ D g i then [(i : Int)] else []) := by
 unfold U
 rw [List.range_succ, List.filter_append, List.map_append]
 congr 1
 by_cases h : (k : Int) ∈ D g i
 ·simp [h]
 ·simp [h]
theorem U_len (g : List Nd) (i k : Nat) : (U g i k).length ≤ i := by
 unfold U
 rw [List.length_map]
 exact Nat.le_trans (List.length_filter_le _ _) (by simp)
structure Right (g : List Nd) : Prop where
 len : g.length ≤ 1000
 lab : Rising (labs g)
 nd : ∀ n ∈ g, n.2.2.1.length ≤ 300 ∧ Rising n.2.2.1 ∧ 0 ≤ n.2.2.2.2.2 ∧ n.2.2.2.2.2 ≤ 1000000
 dep : ∀ n ∈ g, ∀ s ∈ n.2.2.1, 0 ≤ posI g s
section
variable {g : List Nd}
theorem Right.at (h : Right g) (s : ByteArray) : graph_at.f g s = some (posI g s) ∧ ((posI g s = -1 ∧ ∀ k : Nat, ∀ h : k < g.length, g[k].1 ≠ s) ∨ ∃ k : Nat, posI g s = k ∧ ∃ h : k < g.length, g[k].1 = s) := pos_ok h.len h.lab s
theorem lab_inj (h : Rising (labs g)) {i j : Nat} (hi : i < g.length) (hj : j < g.length) (e : g[i].1 = g[j].1) : i = j :=
 h.inj (by unfold labs; simpa using hi) (by unfold labs; simpa using hj) (by rw [labs_get hi, labs_get hj]; exact e)
end
structure Inv (g : List Nd) (i j : Nat) (dps usr : List (List Int)) : Prop where
 dl : dps.length = g.length
 ul : usr.length = g.length
 d : ∀ q, q < g.length → dps.getD q [] = if q < i then D g q else if q = i then (D g i).take j else []
 u : ∀ k, k < g.length → usr.getD k [] = U g i k ++ (if (k : Int) ∈ (D g i).take j then [(i : Int)] else [])
theorem Inv.next {g : List Nd} {i : Nat} {dps usr : List (List Int)} (h : Inv g i (D g i).length dps usr) : Inv g (i + 1) 0 dps usr := by
 refine ⟨h.dl, h.ul, fun q hq => ?_, fun k hk => ?_⟩
 ·rw [h.d q hq]
  rcases Nat.lt_trichotomy q i with h1 | h1 | h1
  ·rw [if_pos h1, if_pos (by omega)]
  ·subst h1; rw [if_neg (by omega), if_pos rfl, if_pos (by omega), List.take_of_length_le (Nat.le_refl _)]
  ·rw [if_neg (by omega), if_neg (by omega), if_neg (by omega)]
   split
   ·rfl
   ·rfl
 ·rw [h.u k hk, U_succ, List.take_of_length_le (Nat.le_refl _), List.take_zero]
  simp
theorem getD_set {α : Type} (l : List α) (i : Nat) (x : α) (q : Nat) (d : α) (hi : i < l.length) : (l.set i x).getD q d = if q = i then x else l.getD q d := by
 unfold List.getD
 rw [List.getElem?_set]
 by_cases h : i = q
 ·subst h; rw [if_pos rfl, if_pos hi, if_pos rfl]; rfl
 ·rw [if_neg h, if_neg (fun e => h e.symm)]
theorem Inv.step {g : List Nd} {i j d : Nat} {dps usr : List (List Int)} (h : Inv g i j dps usr) (hi : i < g.length) (hd : d < g.length) (hj : j < (D g i).length) (he : (D g i)[j] = (d : Int)) (hno : (d : Int) ∉ (D g i).take j) :
  Inv g i (j + 1) (dps.set i (dps.getD i [] ++ [(d : Int)])) (usr.set d (usr.getD d [] ++ [(i : Int)])) := by
 have ht : (D g i).take (j + 1) = (D g i).take j ++ [(d : Int)] := by rw [List.take_succ_eq_append_getElem hj, he]
 refine ⟨by simpa using h.dl, by simpa using h.ul, fun q hq => ?_, fun k hk => ?_⟩
 ·rw [getD_set _ _ _ _ _ (by rw [h.dl]; exact hi)]
  by_cases hqi : q = i
  ·subst hqi
   have := h.d q hq
   rw [if_neg (by omega), if_pos rfl] at this
   rw [if_pos rfl, if_neg (by omega), if_pos rfl, this, ht]
  ·rw [if_neg hqi, h.d q hq]
   split
   ·rfl
   ·rfl
 ·rw [getD_set _ _ _ _ _ (by rw [h.ul]; exact hd), ht]
  by_cases hkd : k = d
  ·subst hkd
   have := h.u k hk
   rw [if_neg hno, List.append_nil] at this
   rw [if_pos rfl, this, if_pos (by simp)]
  ·rw [if_neg hkd, h.u k hk]
   have e : (k : Int) ∈ (D g i).take j ++ [(d : Int)] ↔ (k : Int) ∈ (D g i).take j := by
    simp only [List.mem_append, List.mem_singleton]
    constructor
    ·intro h
     rcases h with h | h
     ·exact h
     ·exact absurd (by omega : k = d) hkd
    ·exact .inl
   by_cases hm : (k : Int) ∈ (D g i).take j
   ·rw [if_pos hm, if_pos (e.2 hm)]
   ·rw [if_neg hm, if_neg (fun h => hm (e.1 h))]
theorem D_nodup {g : List Nd} (hl : g.length ≤ 1000) (hr : Rising (labs g)) {i : Nat} (hi : i < g.length) (hri : Rising g[i].2.2.1) {j : Nat} (hj : j < g[i].2.2.1.length) {d : Nat} (hp : posI g g[i].2.2.1[j] = (d : Int)) : (d : Int) ∉ (D g i).take j := by
 intro hm
 obtain ⟨q, hq, he⟩ := List.getElem_of_mem hm
 have hql : q < j := by have := hq; simp at this; omega
 have hqs : q < g[i].2.2.1.length := by omega
 rw [List.getElem_take] at he
 simp only [D_get hi, List.getElem_map] at he
 have h1 := (pos_ok hl hr g[i].2.2.1[j]).2
 have h2 := (pos_ok hl hr g[i].2.2.1[q]).2
 rcases h1 with ⟨h1, _⟩ | ⟨a, h1, ha, hb⟩
 ·omega
 ·rcases h2 with ⟨h2, _⟩ | ⟨c, h2, hc, hd⟩
  ·omega
  ·have e : a = c := by omega
   subst e
   have := hri q j hj hql
   rw [← hb, ← hd] at this
   have h0 := (cmpS_eq0 g[a].1 g[a].1).2 rfl
   omega
theorem openIn {g : List Nd} (hl : g.length ≤ 1000) (hr : Rising (labs g)) {i : Nat} (hi : i < g.length) (hn : g[i].2.2.1.length ≤ 300) (hri : Rising g[i].2.2.1) :
  ∀ (n j : Nat) (dps usr : List (List Int)), g[i].2.2.1.length - j = n → j ≤ g[i].2.2.1.length → Inv g i j dps usr →
   graph_open.l2 g (i : Int) g[i].2.2.1 (g[i].2.2.1.length : Int) (j : Int) dps usr g = some (.inl (none, 9)) ∧ (∃ s ∈ g[i].2.2.1, posI g s < 0) ∨
   ∃ dps' usr', graph_open.l2 g (i : Int) g[i].2.2.1 (g[i].2.2.1.length : Int) (j : Int) dps usr g = some (.inr (dps', usr', g)) ∧ Inv g i (D g i).length dps' usr' ∧ ∀ s ∈ g[i].2.2.1.drop j, 0 ≤ posI g s := by
 have hDl : (D g i).length = g[i].2.2.1.length := by rw [D_get hi, List.length_map]
 intro n
 induction n with
 | zero =>
  intro j dps usr hn' hj inv
  have e : j = (D g i).length := by omega
  refine .inr ⟨dps, usr, loopX_done ?_, e ▸ inv, fun s hs => ?_⟩
  ·simp only [graph_open.s2, cb_dec]
   rw [if_neg (by omega)]
  ·rw [List.drop_eq_nil_of_le (by omega)] at hs; cases hs
 | succ n ih =>
  intro j dps usr hn' hj inv
  have hlt : j < g[i].2.2.1.length := by omega
  obtain ⟨ha, hp⟩ := pos_ok hl hr g[i].2.2.1[j]
  rcases hp with ⟨hp, _⟩ | ⟨d, hp, hd, he⟩
  ·left
   refine ⟨loopX_done ?_, _, List.getElem_mem hlt, by omega⟩
   simp only [graph_open.s2, cb_dec, rd_lt hlt, ha, hp, ob_s]
   rw [if_pos (by omega), ck_pos (by omega), if_pos (by decide)]
  ·have hDj : (D g i)[j]'(by omega) = (d : Int) := by simp only [D_get hi, List.getElem_map]; exact hp
   have hno := D_nodup hl hr hi hri hlt hp
   have inv' := inv.step hi hd (by omega) hDj hno
   have c0 : 0 ≤ (j : Int) ∧ (j : Int) < (g[i].2.2.1.length : Int) := by omega
   have c1 : ¬ (d : Int) < 0 := by omega
   have hdl := inv.dl
   have hul := inv.ul
   have c2 : 0 ≤ (i : Int) ∧ (i : Int) < (dps.length : Int) := by omega
   have c3 : i < dps.length := by omega
   have hrow : (dps.getD i []).length ≤ 300 := by
    rw [inv.d i hi, if_neg (by omega), if_pos rfl, List.length_take]; omega
   have hurow : (usr.getD d []).length ≤ 1001 := by
    have := U_len g i d
    rw [inv.u d hd, List.length_append]
    split <;> simp only [List.length_cons, List.length_nil] <;> omega
   have c4 : i < dps.length ∧ ((dps.getD i []).length + [(d : Int)].length) * 8 ≤ 140737488355328 := ⟨c3, by simp only [List.length_cons, List.length_nil]; omega⟩
   have c5 : 0 ≤ (d : Int) ∧ (d : Int) < (usr.length : Int) := by omega
   have c6 : d < usr.length := by omega
   have c7 : d < usr.length ∧ ((usr.getD d []).length + [(i : Int)].length) * 8 ≤ 140737488355328 := ⟨c6, by simp only [List.length_cons, List.length_nil]; omega⟩
   have c8 : InR ((j : Int) + 1) := ⟨by omega, by omega⟩
   have hstep : graph_open.s2 g (i : Int) g[i].2.2.1 (g[i].2.2.1.length : Int) (j : Int) dps usr g = some (.inl ((j : Int) + 1, dps.set i (dps.getD i [] ++ [(d : Int)]), usr.set d (usr.getD d [] ++ [(i : Int)]), g)) := by
    simp only [graph_open.s2, cb_dec, rd_lt hlt, ha, hp, ob_s, if_pos c0.2, ck_pos c0, if_neg c1, mix_eq, Int.toNat_natCast, List.length_set, ck_pos c2, ck_pos c3, ck_pos c4, ck_pos c5, ck_pos c6, ck_pos c7, ck_pos c8, ck_rfl, both_same, ck_tr]
   rcases ih (j + 1) _ _ (by omega) (by omega) inv' with ⟨h, hb⟩ | ⟨d', u', h1, h2, h3⟩
   ·exact .inl ⟨(loopX_next hstep).trans h, hb⟩
   ·refine .inr ⟨d', u', (loopX_next hstep).trans h1, h2, fun s hs => ?_⟩
    rw [List.drop_eq_getElem_cons hlt] at hs
    rcases List.mem_cons.1 hs with rfl | hs
    ·omega
    ·exact h3 s hs
theorem openOut {g : List Nd} (hl : g.length ≤ 1000) (hr : Rising (labs g)) (hnd : ∀ n ∈ g, n.2.2.1.length ≤ 300 ∧ Rising n.2.2.1) :
  ∀ (n i : Nat) (dps usr : List (List Int)), g.length - i = n → i ≤ g.length → Inv g i 0 dps usr →
   graph_open.l1 g g (g.length : Int) (i : Int) dps usr g = some (.inl (none, 9)) ∧ (∃ n ∈ g, ∃ s ∈ n.2.2.1, posI g s < 0) ∨
   ∃ dps' usr', graph_open.l1 g g (g.length : Int) (i : Int) dps usr g = some (.inr (dps', usr', g)) ∧ Inv g g.length 0 dps' usr' ∧ ∀ n ∈ g.drop i, ∀ s ∈ n.2.2.1, 0 ≤ posI g s := by
 intro n
 induction n with
 | zero =>
  intro i dps usr hn hi inv
  have e : i = g.length := by omega
  refine .inr ⟨dps, usr, loopX_done ?_, e ▸ inv, fun s hs => ?_⟩
  ·simp only [graph_open.s1, cb_dec]
   rw [if_neg (by omega)]
  ·rw [List.drop_eq_nil_of_le (by omega)] at hs; cases hs
 | succ n ih =>
  intro i dps usr hn hi inv
  have hlt : i < g.length := by omega
  obtain ⟨h1, h2⟩ := hnd _ (List.getElem_mem hlt)
  rcases openIn hl hr hlt h1 h2 _ 0 dps usr rfl (Nat.zero_le _) inv with ⟨h, hb⟩ | ⟨d', u', h3, h4, h5⟩
  ·left
   rw [show ((0 : Nat) : Int) = 0 from rfl] at h
   refine ⟨loopX_done ?_, _, List.getElem_mem hlt, hb⟩
   simp only [graph_open.s1, cb_dec, rd_lt hlt, h, ob_s, caseS_l]
   rw [if_pos (by omega), ck_pos (by omega)]
  ·rw [show ((0 : Nat) : Int) = 0 from rfl] at h3
   have hstep : graph_open.s1 g g (g.length : Int) (i : Int) dps usr g = some (.inl ((i : Int) + 1, d', u', g)) := by
    simp only [graph_open.s1, cb_dec, rd_lt hlt, h3, ob_s, caseS_r]
    rw [if_pos (by omega), ck_pos (by omega), ck_in (by omega) (by omega)]
   rcases ih (i + 1) d' u' (by omega) (by omega) h4.next with ⟨h, hb⟩ | ⟨d2, u2, h6, h7, h8⟩
   ·exact .inl ⟨(loopX_next hstep).trans h, hb⟩
   ·refine .inr ⟨d2, u2, (loopX_next hstep).trans h6, h7, fun n' hn' => ?_⟩
    rw [List.drop_eq_getElem_cons hlt] at hn'
    rcases List.mem_cons.1 hn' with rfl | hn'
    ·simpa using h5
    ·exact h8 n' hn'
def Bad (g : List Nd) : Prop := 1000 < g.length ∨ (∃ n ∈ g, graph_checkNode.f n ≠ some 0) ∨ ¬ Rising (labs g) ∨ ∃ n ∈ g, ∃ s ∈ n.2.2.1, posI g s < 0
def ChkP (g : List Nd) (k : Nat) : Prop := ((∃ f : Int, f ≠ 0 ∧ graph_open.l0 g g (g.length : Int) (k : Int) = some (.inl (none, f))) ∧ Bad g) ∨
  (graph_open.l0 g g (g.length : Int) (k : Int) = some (.inr ()) ∧ (∀ n ∈ g.drop k, graph_checkNode.f n = some 0 ∧ n.2.2.1.length ≤ 300 ∧ Rising n.2.2.1 ∧ 0 ≤ n.2.2.2.2.2 ∧ n.2.2.2.2.2 ≤ 1000000) ∧ ∀ i : Nat, ∀ h : i + 1 < g.length, k ≤ i + 1 → cmpS (g[i]'(by omega)).1 g[i + 1].1 < 0)
theorem openChk {g : List Nd} (hl : g.length ≤ 1000) (hs : ∀ n ∈ g, szNd n) : ∀ (n k : Nat), g.length - k = n → k ≤ g.length → ChkP g k := by
 intro n
 induction n with
 | zero =>
  intro k hn hk
  refine .inr ⟨loopX_done ?_, fun s hs => ?_, fun i h hki => by omega⟩
  ·simp only [graph_open.s0, cb_dec]
   rw [if_neg (by omega)]
  ·rw [List.drop_eq_nil_of_le (by omega)] at hs; cases hs
 | succ n ih =>
  intro k hn hk
  have hlt : k < g.length := by omega
  obtain ⟨f, h1, h2⟩ := checkNode_some (hs _ (List.getElem_mem hlt))
  by_cases hf : f = 0
  ·subst hf
   have cont : (∀ h0 : 0 < k, ¬ cmpS g[k].1 (g[k - 1]'(by omega)).1 ≤ 0) → graph_open.s0 g g (g.length : Int) (k : Int) = some (.inl ((k : Int) + 1)) → ChkP g k := fun hc hstep => by
    rcases ih (k + 1) (by omega) (by omega) with ⟨⟨f, h3, h4⟩, hb⟩ | ⟨h3, h4, h5⟩
    ·exact .inl ⟨⟨f, h3, (loopX_next hstep).trans h4⟩, hb⟩
    ·refine .inr ⟨(loopX_next hstep).trans h3, fun n' hn' => ?_, fun i hi hki => ?_⟩
     ·rw [List.drop_eq_getElem_cons hlt] at hn'
      rcases List.mem_cons.1 hn' with rfl | hn'
      ·have := h2 rfl; exact ⟨h1, this.1, this.2.1, this.2.2.1, this.2.2.2.1⟩
      ·exact h4 n' hn'
     ·rcases Nat.lt_or_ge i k with h6 | h6
      ·have e : k = i + 1 := by omega
       subst e
       have h7 := hc (by omega)
       have h8 : ¬ cmpS g[i + 1].1 (g[i]'(by omega)).1 ≤ 0 := h7
       have := cmpS_swap g[i + 1].1 (g[i]'(by omega)).1
       omega
      ·exact h5 i hi (by omega)
   rcases Nat.eq_zero_or_pos k with h0 | h0
   ·subst h0
    refine cont (fun h => absurd h (Nat.lt_irrefl _)) ?_
    simp only [graph_open.s0, cb_dec, rd_lt hlt, h1, ob_s, decide_true, Bool.not_true, cb_f]
    rw [if_pos (by omega), ck_pos (by omega), if_neg (by omega), ck_in (by omega) (by omega)]
   ·obtain ⟨k', rfl⟩ : ∃ k', k = k' + 1 := ⟨k - 1, by omega⟩
    have hk' : k' < g.length := by omega
    have e : ((k' + 1 : Nat) : Int) - 1 = (k' : Int) := by omega
    by_cases hc : cmpS g[k' + 1].1 g[k'].1 ≤ 0
    ·refine .inl ⟨⟨8, by decide, loopX_done ?_⟩, .inr (.inr (.inl fun hr => by
      have h9 := hr k' (k' + 1) (by unfold labs; simpa using hlt) (Nat.lt_succ_self _)
      rw [labs_get hk', labs_get hlt] at h9
      have := cmpS_swap g[k'].1 g[k' + 1].1
      omega))⟩
     simp only [graph_open.s0, cb_dec, rd_lt hlt, h1, ob_s, decide_true, Bool.not_true, cb_f, e, rd_lt hk', leq_iff]
     rw [if_pos (by omega), ck_pos (by omega), if_pos (by omega), ck_in (by omega) (by omega), ck_pos (by omega), if_pos hc]
    ·refine cont (fun _ => hc) ?_
     simp only [graph_open.s0, cb_dec, rd_lt hlt, h1, ob_s, decide_true, Bool.not_true, cb_f, e, rd_lt hk', leq_iff]
     rw [if_pos (by omega), ck_pos (by omega), if_pos (by omega), ck_in (by omega) (by omega), ck_pos (by omega), if_neg hc, ck_in (by omega) (by omega)]
  ·refine .inl ⟨⟨f, hf, loopX_done ?_⟩, .inr (.inl ⟨_, List.getElem_mem hlt, by rw [h1]; exact fun e => hf (Option.some.inj e)⟩)⟩
   simp only [graph_open.s0, cb_dec, rd_lt hlt, h1, ob_s]
   rw [if_pos (by omega), ck_pos (by omega), decide_eq_false hf]
   rfl
theorem Inv.ends {g : List Nd} {dps usr : List (List Int)} (h : Inv g g.length 0 dps usr) : dps = depsA g ∧ usr = usersA g := by
 constructor
 ·apply List.ext_getElem (by rw [h.dl]; simp [depsA])
  intro q h1 h2
  have hq : q < g.length := by rw [← h.dl]; exact h1
  have := h.d q hq
  rw [if_pos hq] at this
  rw [List.getD, List.getElem?_eq_getElem h1, Option.getD_some] at this
  rw [this]
  simp [D, List.getD, h2]
 ·apply List.ext_getElem (by rw [h.ul]; simp [usersA])
  intro q h1 h2
  have hq : q < g.length := by rw [← h.ul]; exact h1
  have := h.u q hq
  rw [List.getD, List.getElem?_eq_getElem h1, Option.getD_some, List.take_zero] at this
  rw [this]
  simp [usersA]
theorem open_eq' {g : List Nd} (hs : ∀ n ∈ g, szNd n) : ((∃ f : Int, f ≠ 0 ∧ graph_open.f g = some (none, f)) ∧ Bad g) ∨ ((Right g ∧ graph_open.f g = some (some (g, (depsA g, usersA g)), 0)) ∧ ∀ n ∈ g, graph_checkNode.f n = some 0) := by
 unfold graph_open.f
 simp only [cb_dec]
 by_cases hl : (1000 : Int) < ((g.length : Nat) : Int)
 ·rw [if_pos hl]; exact .inl ⟨⟨2, by decide, rfl⟩, .inl (by omega)⟩
 ·rw [if_neg hl]
  have h1 := openChk (g := g) (by omega) hs g.length 0 (by omega) (by omega)
  unfold ChkP at h1
  rw [show ((0 : Nat) : Int) = 0 from rfl] at h1
  rcases h1 with ⟨⟨f, h2, h3⟩, hb⟩ | ⟨h2, h3, h4⟩
  ·rw [h3]; exact .inl ⟨⟨f, h2, rfl⟩, hb⟩
  ·rw [h2]
   simp only [ob_s, caseS_r, Int.toNat_natCast, mix_eq]
   have hlab : Rising (labs g) := rising_step fun k hk => by
    have hk' : k + 1 < g.length := by unfold labs at hk; simpa using hk
    rw [labs_get (by omega), labs_get hk']
    exact h4 k hk' (by omega)
   have hnd : ∀ n ∈ g, n.2.2.1.length ≤ 300 ∧ Rising n.2.2.1 ∧ 0 ≤ n.2.2.2.2.2 ∧ n.2.2.2.2.2 ≤ 1000000 := fun n hn => (h3 n (by simpa using hn)).2
   have c : 0 ≤ ((g.length : Nat) : Int) ∧ ((g.length : Nat) : Int) * 24 ≤ 140737488355328 := by omega
   have inv0 : Inv g 0 0 (List.replicate g.length []) (List.replicate g.length []) := by
    refine ⟨by simp, by simp, fun q hq => ?_, fun k hk => ?_⟩
    ·rw [if_neg (by omega)]
     have : (List.replicate g.length ([] : List Int)).getD q [] = [] := by rw [List.getD, List.getElem?_replicate, if_pos hq]; rfl
     rw [this]
     split <;> rfl
    ·have : (List.replicate g.length ([] : List Int)).getD k [] = [] := by rw [List.getD, List.getElem?_replicate, if_pos hk]; rfl
     rw [this]
     simp [U]
   have h5 := openOut (g := g) (by omega) hlab (fun n hn => ⟨(hnd n hn).1, (hnd n hn).2.1⟩) g.length 0 _ _ (by omega) (by omega) inv0
   rw [show ((0 : Nat) : Int) = 0 from rfl, List.drop_zero] at h5
   simp only [ck_pos c]
   rcases h5 with ⟨h5, hb⟩ | ⟨d', u', h5, h6, h7⟩
   ·rw [h5]; simp only [ob_s, caseS_l, both_same]; exact .inl ⟨⟨9, by decide, rfl⟩, .inr (.inr (.inr hb))⟩
   ·rw [h5]; simp only [ob_s, caseS_r, both_same]
    obtain ⟨rfl, rfl⟩ := h6.ends
    exact .inr ⟨⟨⟨by omega, hlab, hnd, h7⟩, rfl⟩, fun n hn => (h3 n (by simpa using hn)).1⟩
theorem open_eq {g : List Nd} (hs : ∀ n ∈ g, szNd n) : (∃ f : Int, f ≠ 0 ∧ graph_open.f g = some (none, f)) ∨ (Right g ∧ graph_open.f g = some (some (g, (depsA g, usersA g)), 0)) :=
 (open_eq' hs).imp (·.1) (·.1)
section
variable {g : List Nd}
theorem Right.D_mem (h : Right g) {i : Nat} (hi : i < g.length) {x : Int} (hx : x ∈ D g i) : ∃ d : Nat, x = d ∧ d < g.length := by
 rw [D_get hi] at hx
 obtain ⟨s, hs, rfl⟩ := List.mem_map.1 hx
 rcases (h.at s).2 with ⟨h1, _⟩ | ⟨d, h1, h2, _⟩
 ·have := h.dep _ (List.getElem_mem hi) s hs; omega
 ·exact ⟨d, h1, h2⟩
def Ed (g : List Nd) (i d : Nat) : Prop := i < g.length ∧ (d : Int) ∈ D g i
theorem Right.ed_lt (h : Right g) {i d : Nat} (e : Ed g i d) : i < g.length ∧ d < g.length := by
 obtain ⟨q, h1, h2⟩ := h.D_mem e.1 e.2
 exact ⟨e.1, by omega⟩
theorem U_mem {i k : Nat} {x : Int} : x ∈ U g i k ↔ ∃ q : Nat, x = q ∧ q < i ∧ (k : Int) ∈ D g q := by
 unfold U
 simp only [List.mem_map, List.mem_filter, List.mem_range, decide_eq_true_eq]
 constructor
 ·rintro ⟨q, ⟨h1, h2⟩, rfl⟩; exact ⟨q, rfl, h1, h2⟩
 ·rintro ⟨q, rfl, h1, h2⟩; exact ⟨q, ⟨h1, h2⟩, rfl⟩
theorem D_label (h : Right g) {i d : Nat} (hi : i < g.length) (hd : d < g.length) : (d : Int) ∈ D g i ↔ g[d].1 ∈ g[i].2.2.1 := by
 rw [D_get hi, List.mem_map]
 constructor
 ·rintro ⟨s, hs, he⟩
  rcases (h.at s).2 with ⟨h1, _⟩ | ⟨q, h1, h2, h3⟩
  ·omega
  ·have : q = d := by omega
   subst this
   rw [h3]; exact hs
 ·intro hm
  refine ⟨_, hm, ?_⟩
  rcases (h.at g[d].1).2 with ⟨h1, h2⟩ | ⟨q, h1, h2, h3⟩
  ·exact absurd rfl (h2 d hd)
  ·rw [h1, lab_inj h.lab h2 hd h3]
end
end Go.Proofs.YtafalbofjmfbnaaDoor
set_option linter.unusedVariables false
set_option linter.unusedSimpArgs false
namespace Go.Proofs.YtafalbofjmfbnaaDoor
open Go Go.Proofs.YtafalbofjmfbnaaDoor.Eng
abbrev ints (L : List Nat) : List Int := L.map fun x : Nat => (x : Int)
theorem mem_ints {L : List Nat} {k : Nat} : (k : Int) ∈ ints L ↔ k ∈ L := by
 simp only [ints, List.mem_map]
 constructor
 ·rintro ⟨x, hx, he⟩
  have : x = k := by omega
  exact this ▸ hx
 ·exact fun h => ⟨k, h, rfl⟩
def cnt (l : List Int) (L : List Nat) : Nat := (l.filter fun x => decide (x ∉ ints L)).length
theorem cnt_le (l : List Int) (L : List Nat) : cnt l L ≤ l.length := List.length_filter_le _ _
theorem cnt_pos {l : List Int} {L : List Nat} (h : 0 < cnt l L) : ∃ x, x ∈ l ∧ x ∉ ints L := by
 unfold cnt at h
 obtain ⟨x, hx⟩ := List.exists_mem_of_length_pos h
 rw [List.mem_filter] at hx
 exact ⟨x, hx.1, of_decide_eq_true hx.2⟩
theorem cnt_zero {l : List Int} {L : List Nat} (h : cnt l L = 0) : ∀ x ∈ l, x ∈ ints L := by
 intro x hx
 refine Classical.byContradiction fun hn => ?_
 unfold cnt at h
 have := List.eq_nil_of_length_eq_zero h
 have hm : x ∈ l.filter fun x => decide (x ∉ ints L) := List.mem_filter.2 ⟨hx, decide_eq_true hn⟩
 rw [this] at hm
 cases hm
theorem cnt_add {k : Nat} {L : List Nat} (hk : k ∉ L) : ∀ {l : List Int}, l.Nodup → cnt l L = cnt l (L ++ [k]) + (if (k : Int) ∈ l then 1 else 0)
 | [], _ => by simp [cnt]
 | x :: l, hn => by
  rw [List.nodup_cons] at hn
  have ih := cnt_add hk hn.2
  have e : ∀ M : List Nat, cnt (x :: l) M = (if x ∈ ints M then 0 else 1) + cnt l M := fun M => by
   unfold cnt
   rw [List.filter_cons]
   by_cases h : x ∈ ints M
   ·simp [h]
   ·simp [h]; omega
  rw [e, e, ih]
  have hin : x ∈ ints (L ++ [k]) ↔ x ∈ ints L ∨ x = (k : Int) := by
   simp only [ints, List.map_append, List.mem_append, List.map_cons, List.map_nil, List.mem_singleton]
  by_cases hx : x = (k : Int)
  ·subst hx
   have h1 : ¬ (k : Int) ∈ ints L := fun h => hk (mem_ints.1 h)
   rw [if_neg h1, if_pos (hin.2 (.inr rfl)), if_neg hn.1, if_pos (List.mem_cons_self ..)]
   omega
  ·have h2 : ((k : Int) ∈ x :: l) ↔ (k : Int) ∈ l := by
    rw [List.mem_cons]
    exact ⟨fun h => h.resolve_left (fun e => hx e.symm), .inr⟩
   by_cases h1 : x ∈ ints L
   ·rw [if_pos h1, if_pos (hin.2 (.inl h1))]
    by_cases h3 : (k : Int) ∈ l
    ·rw [if_pos h3, if_pos (h2.2 h3)]; omega
    ·rw [if_neg h3, if_neg (fun h => h3 (h2.1 h))]; omega
   ·rw [if_neg h1, if_neg (fun h => (hin.1 h).elim h1 hx)]
    by_cases h3 : (k : Int) ∈ l
    ·rw [if_pos h3, if_pos (h2.2 h3)]; omega
    ·rw [if_neg h3, if_neg (fun h => h3 (h2.1 h))]; omega
section
variable {g : List Nd}
theorem Right.nodup (h : Right g) {i : Nat} (hi : i < g.length) : (D g i).Nodup := by
 rw [List.Nodup, List.pairwise_iff_getElem]
 intro a b ha hb hab e
 have hbl : b < g[i].2.2.1.length := by rw [D_get hi, List.length_map] at hb; exact hb
 obtain ⟨d, h1, h2⟩ := h.D_mem hi (List.getElem_mem hb)
 have hp : posI g g[i].2.2.1[b] = (d : Int) := by rw [← h1]; simp [D_get hi]
 have := D_nodup h.len h.lab hi (h.nd _ (List.getElem_mem hi)).2.1 hbl hp
 refine this ?_
 rw [← h1, ← e]
 rw [List.mem_iff_getElem]
 exact ⟨a, by simp; omega, by rw [List.getElem_take]⟩
theorem pairwise_map' {α β : Type} {f : α → β} {R : α → α → Prop} {S : β → β → Prop} (hf : ∀ a b, R a b → S (f a) (f b)) {l : List α} (h : l.Pairwise R) : (l.map f).Pairwise S :=
 List.pairwise_map.2 (h.imp fun {a b} => hf a b)
theorem len_le : ∀ {M L : List Nat}, L.Nodup → (∀ x ∈ L, x ∈ M) → L.length ≤ M.length
 | [], L, _, h => by
  cases L with
  | nil => exact Nat.le_refl _
  | cons a l => cases h a (List.mem_cons_self ..)
 | m :: M, L, hn, h => by
  have h1 : (L.erase m).Nodup := hn.erase m
  have h2 := len_le (M := M) h1 (fun x hx => by
   rcases List.mem_cons.1 (h x (List.mem_of_mem_erase hx)) with he | he
   ·subst he
    exact absurd hx (hn.not_mem_erase)
   ·exact he)
  have h3 : L.length ≤ (L.erase m).length + 1 := by
   by_cases hm : m ∈ L
   ·rw [List.length_erase_of_mem hm]; omega
   ·rw [List.erase_of_not_mem hm]; omega
  simp only [List.length_cons]; omega
theorem U_nodup (i k : Nat) : (U g i k).Nodup := by
 unfold U
 exact pairwise_map' (fun a b h e => h (by omega)) (List.nodup_range.filter _)
theorem findLoop (left : List Int) (done : List Bool) (out : List Int) (hd : done.length = left.length) (hl : left.length ≤ 1000) : ∀ (n k : Nat), left.length - k = n → k ≤ left.length → (∀ q : Nat, q < k → done.getD q false = true ∨ 0 < left.getD q 0) →
  ∃ c : Nat, graph_net_order.l2 (k : Int) left done out = some ((c : Int), left, done, out) ∧ c ≤ left.length ∧ (∀ q : Nat, q < c → done.getD q false = true ∨ 0 < left.getD q 0) ∧ (c < left.length → done.getD c false = false ∧ ¬ 0 < left.getD c 0) := by
 intro n
 induction n with
 | zero =>
  intro k hn hk hb
  refine ⟨k, loopX_done ?_, hk, hb, fun h => by omega⟩
  simp only [graph_net_order.s2, cb_dec]
  rw [if_neg (by omega)]
 | succ n ih =>
  intro k hn hk hb
  have hlt : k < left.length := by omega
  by_cases hstop : done.getD k false = false ∧ ¬ 0 < left.getD k 0
  ·refine ⟨k, loopX_done ?_, hk, hb, fun _ => hstop⟩
   simp only [graph_net_order.s2, cb_dec, Int.toNat_natCast]
   rw [if_pos (by omega), ck_pos (by omega), ck_pos (by omega), hstop.1, cb_f, ck_pos (by omega), ck_pos hlt, if_neg hstop.2]
  ·obtain ⟨c, h1, h2⟩ := ih (k + 1) (by omega) (by omega) (fun q hq => by
    rcases Nat.lt_or_ge q k with h | h
    ·exact hb q h
    ·have : q = k := by omega
     subst this
     cases hc : done.getD q false with
     | true => exact .inl rfl
     | false => exact .inr (Classical.byContradiction fun h => hstop ⟨hc, h⟩))
   refine ⟨c, (loopX_next ?_).trans h1, h2⟩
   simp only [graph_net_order.s2, cb_dec, Int.toNat_natCast]
   rw [if_pos (by omega), ck_pos (by omega), ck_pos (by omega)]
   cases hc : done.getD k false with
   | true => rw [cb_t, ck_in (by omega) (by omega)]; rfl
   | false =>
    rw [cb_f, ck_pos (by omega), ck_pos hlt, if_pos (Classical.byContradiction fun h => hstop ⟨hc, h⟩), ck_in (by omega) (by omega)]; rfl
theorem tellLoop (h : Right g) {L : List Nat} {k : Nat} (hk : k < g.length) (hkL : k ∉ L) (done : List Bool) (out o3 : List Int) :
  ∀ (n j : Nat) (left : List Int), (U g g.length k).length - j = n → j ≤ (U g g.length k).length → left.length = g.length → (∀ u : Nat, u < g.length → left.getD u 0 = (cnt (D g u) L : Int) - (if (u : Int) ∈ (U g g.length k).take j then 1 else 0)) →
   ∃ left', graph_net_order.l3 (U g g.length k) ((U g g.length k).length : Int) (j : Int) left done out o3 = some (left', done, out, o3) ∧ left'.length = g.length ∧ ∀ u : Nat, u < g.length → left'.getD u 0 = (cnt (D g u) (L ++ [k]) : Int) := by
 have hU := U_len g g.length k
 have hgl := h.len
 intro n
 induction n with
 | zero =>
  intro j left hn hj hl hv
  refine ⟨left, loopX_done ?_, hl, fun u hu => ?_⟩
  ·simp only [graph_net_order.s3, cb_dec]
   rw [if_neg (by omega)]
  ·have h1 := hv u hu
   rw [List.take_of_length_le (by omega)] at h1
   have h2 := cnt_add hkL (h.nodup hu)
   by_cases hm : (k : Int) ∈ D g u
   ·rw [if_pos hm] at h2
    rw [if_pos (U_mem.2 ⟨u, rfl, hu, hm⟩)] at h1
    omega
   ·rw [if_neg hm] at h2
    rw [if_neg (fun hx => by
     obtain ⟨q, h3, h4, h5⟩ := U_mem.1 hx
     have : q = u := by omega
     exact hm (this ▸ h5))] at h1
    omega
 | succ n ih =>
  intro j left hn hj hl hv
  have hlt : j < (U g g.length k).length := by omega
  obtain ⟨u, hu1, hu2, hu3⟩ := U_mem.1 (List.getElem_mem hlt)
  have hnm : (u : Int) ∉ (U g g.length k).take j := fun hm => by
   obtain ⟨q, hq, he⟩ := List.getElem_of_mem hm
   have hql : q < j := by have := hq; simp at this; omega
   rw [List.getElem_take] at he
   have hnd := U_nodup (g := g) g.length k
   rw [List.Nodup, List.pairwise_iff_getElem] at hnd
   exact hnd q j (by omega) hlt hql (by rw [he, hu1])
  have hv0 := hv u hu2
  rw [if_neg hnm] at hv0
  have hcl := cnt_le (D g u) L
  have hDl : (D g u).length ≤ 300 := by rw [D_get hu2, List.length_map]; exact (h.nd _ (List.getElem_mem hu2)).1
  obtain ⟨left', h1, h2, h3⟩ := ih (j + 1) (left.set u (left.getD u 0 - 1)) (by omega) (by omega) (by simpa using hl) (fun q hq => by
   rw [getD_set _ _ _ _ _ (by omega), List.take_succ_eq_append_getElem hlt]
   by_cases hqu : q = u
   ·subst hqu
    rw [if_pos rfl, hv0, if_pos (by simp [hu1])]
    omega
   ·rw [if_neg hqu, hv q hq]
    have e : (q : Int) ∈ (U g g.length k).take j ++ [(U g g.length k)[j]] ↔ (q : Int) ∈ (U g g.length k).take j := by
     rw [List.mem_append, List.mem_singleton, hu1]
     exact ⟨fun h => h.resolve_right (fun e => hqu (by omega)), .inl⟩
    by_cases hm : (q : Int) ∈ (U g g.length k).take j
    ·rw [if_pos hm, if_pos (e.2 hm)]
    ·rw [if_neg hm, if_neg (fun h => hm (e.1 h))])
  refine ⟨left', (loopX_next ?_).trans h1, h2, h3⟩
  simp only [graph_net_order.s3, cb_dec, rd_lt hlt, hu1, Int.toNat_natCast]
  rw [if_pos (by omega), ck_pos (by omega), ck_pos (by omega), ck_pos (by omega), ck_in (by omega) (by omega), ck_pos (by omega), ck_pos (by omega), ck_in (by omega) (by omega)]
  rfl
structure Ord (g : List Nd) (L : List Nat) : Prop where
 nodup : L.Nodup
 lt : ∀ x ∈ L, x < g.length
 dep : ∀ p : Nat, ∀ hp : p < L.length, ∀ d : Nat, Ed g L[p] d → d ∈ L.take p
theorem nodup_len {n : Nat} {L : List Nat} (hn : L.Nodup) (hl : ∀ x ∈ L, x < n) : L.length ≤ n := by
 have h := len_le (M := List.range n) hn (fun x hx => List.mem_range.2 (hl x hx))
 simpa using h
theorem missing {n : Nat} {L : List Nat} (hl : L.length < n) : ∃ x, x < n ∧ x ∉ L := by
 refine Classical.byContradiction fun hno => ?_
 have this := len_le (M := L) (List.nodup_range (n := n)) (fun x hx => Classical.byContradiction fun h => hno ⟨x, List.mem_range.1 hx, h⟩)
 simp at this
 omega
theorem orderLoop (h : Right g) : ∀ (n : Nat) (L : List Nat) (left : List Int) (done : List Bool), g.length - L.length = n → Ord g L → left.length = g.length → done.length = g.length → (∀ k : Nat, k < g.length → done.getD k false = decide (k ∈ L)) → (∀ u : Nat, u < g.length → left.getD u 0 = (cnt (D g u) L : Int)) →
  (∃ R : List Nat, R ≠ [] ∧ (∀ x ∈ R, ∃ y, y ∈ R ∧ Ed g x y) ∧ graph_net_order.l1 (some (g, (depsA g, usersA g))) left done (ints L) = some (.inl ([], false))) ∨
  ∃ L' left' done', Ord g L' ∧ L'.length = g.length ∧ graph_net_order.l1 (some (g, (depsA g, usersA g))) left done (ints L) = some (.inr (left', done', ints L')) := by
 intro n
 induction n with
 | zero =>
  intro L left done hn ho hl hd hdv hlv
  have := nodup_len ho.nodup ho.lt
  refine .inr ⟨L, left, done, ho, by omega, loopX_done ?_⟩
  simp only [graph_net_order.s1, cb_dec, Option.isSome_some, Option.getD_some, List.length_map]
  rw [ck_pos trivial, if_neg (by omega)]
 | succ n ih =>
  intro L left done hn ho hl hd hdv hlv
  have hgl := h.len
  have hlen := nodup_len ho.nodup ho.lt
  obtain ⟨c, h1, h2, h3, h4⟩ := findLoop left done (ints L) (by omega) (by omega) left.length 0 (by omega) (by omega) (fun q hq => by omega)
  rw [show ((0 : Nat) : Int) = 0 from rfl] at h1
  by_cases hc : c = left.length
  ·left
   refine ⟨(List.range g.length).filter fun x => decide (x ∉ L), fun he => ?_, fun x hx => ?_, loopX_done ?_⟩
   ·obtain ⟨x, hx1, hx2⟩ := missing (n := g.length) (L := L) (by omega)
    have : x ∈ (List.range g.length).filter fun x => decide (x ∉ L) := List.mem_filter.2 ⟨List.mem_range.2 hx1, decide_eq_true hx2⟩
    rw [he] at this; cases this
   ·rw [List.mem_filter, List.mem_range, decide_eq_true_eq] at hx
    have h5 := h3 x (by omega)
    rw [hdv x hx.1, hlv x hx.1] at h5
    rcases h5 with h5 | h5
    ·exact absurd (of_decide_eq_true h5) hx.2
    ·obtain ⟨y, hy1, hy2⟩ := cnt_pos (l := D g x) (L := L) (by omega)
     obtain ⟨d, rfl, hd'⟩ := h.D_mem hx.1 hy1
     exact ⟨d, List.mem_filter.2 ⟨List.mem_range.2 hd', decide_eq_true (fun hm => hy2 (mem_ints.2 hm))⟩, hx.1, hy1⟩
   ·simp only [graph_net_order.s1, cb_dec, Option.isSome_some, Option.getD_some, List.length_map]
    rw [ck_pos trivial, if_pos (by omega), h1, ob_s]
    simp only
    rw [if_pos (by rw [hc])]
  ·have hcl : c < g.length := by omega
   obtain ⟨h5, h6⟩ := h4 (by omega)
   rw [hdv c hcl] at h5
   rw [hlv c hcl] at h6
   have hcL : c ∉ L := of_decide_eq_false h5
   have hUl := U_len g g.length c
   have hug : (usersA g).length = g.length := by simp [usersA]
   have hur : rd ([] : List Int) (usersA g) (c : Int) = U g g.length c := by
    rw [rd_lt (by rw [hug]; exact hcl)]
    simp [usersA]
   obtain ⟨left', h7, h8, h9⟩ := tellLoop h hcl hcL (done.set c true) (ints L ++ [(c : Int)]) [(c : Int)] _ 0 left rfl (Nat.zero_le _) hl (fun u hu => by rw [hlv u hu, List.take_zero, if_neg (by simp)]; omega)
   rw [show ((0 : Nat) : Int) = 0 from rfl] at h7
   have ho' : Ord g (L ++ [c]) := by
    refine ⟨?_, fun x hx => ?_, fun p hp d he => ?_⟩
    ·rw [List.nodup_append]
     refine ⟨ho.nodup, by simp, fun a ha b hb => ?_⟩
     rw [List.mem_singleton.1 hb]
     exact fun e => hcL (e ▸ ha)
    ·rcases List.mem_append.1 hx with h | h
     ·exact ho.lt x h
     ·rw [List.mem_singleton.1 h]; exact hcl
    ·rcases Nat.lt_or_ge p L.length with hpl | hpl
     ·rw [List.getElem_append_left hpl] at he
      rw [List.take_append_of_le_length (by omega)]
      exact ho.dep p hpl d he
     ·have hpe : p = L.length := by simp at hp; omega
      subst hpe
      rw [List.getElem_append_right (Nat.le_refl _)] at he
      simp only [Nat.sub_self, List.getElem_cons_zero] at he
      rw [List.take_append_of_le_length (Nat.le_refl _), List.take_of_length_le (Nat.le_refl _)]
      have hz : cnt (D g c) L = 0 := by omega
      exact mem_ints.1 (cnt_zero hz _ he.2)
   have hint : ints (L ++ [c]) = ints L ++ [(c : Int)] := by simp [ints]
   have hstep : graph_net_order.s1 (some (g, (depsA g, usersA g))) left done (ints L) = some (.inl (left', done.set c true, ints (L ++ [c]))) := by
    simp only [graph_net_order.s1, cb_dec, Option.isSome_some, Option.getD_some, List.length_map]
    rw [ck_pos trivial, if_pos (by omega), h1, ob_s]
    simp only [Int.toNat_natCast]
    rw [if_neg (by omega), ck_pos (by omega), ck_pos (by omega), ck_pos (by simp only [List.length_cons, List.length_nil, List.length_map]; omega), ck_pos trivial, ck_pos (by rw [hug]; omega), hur, h7, ob_s, hint]
   rcases ih (L ++ [c]) left' (done.set c true) (by simp; omega) ho' h8 (by simpa using hd) (fun q hq => by
    rw [getD_set _ _ _ _ _ (by omega)]
    by_cases hqc : q = c
    ·subst hqc; rw [if_pos rfl]; simp
    ·rw [if_neg hqc, hdv q hq]
     exact decide_eq_decide.2 (by simp [hqc])) h9 with ⟨R, r1, r2, r3⟩ | ⟨L', l', d', r1, r2, r3⟩
   ·exact .inl ⟨R, r1, r2, (loopX_next hstep).trans r3⟩
   ·exact .inr ⟨L', l', d', r1, r2, (loopX_next hstep).trans r3⟩
theorem leftLoop (h : Right g) : ∀ (n i : Nat) (left : List Int), g.length - i = n → i ≤ g.length → left.length = g.length → (∀ u : Nat, u < g.length → left.getD u 0 = if u < i then ((D g u).length : Int) else 0) →
  ∃ left', graph_net_order.l0 (depsA g) ((depsA g).length : Int) (i : Int) left = some left' ∧ left'.length = g.length ∧ ∀ u : Nat, u < g.length → left'.getD u 0 = ((D g u).length : Int) := by
 have hdl : (depsA g).length = g.length := by simp [depsA]
 have hgl := h.len
 intro n
 induction n with
 | zero =>
  intro i left hn hi hl hv
  refine ⟨left, loopX_done ?_, hl, fun u hu => by rw [hv u hu, if_pos (by omega)]⟩
  simp only [graph_net_order.s0, cb_dec]
  rw [if_neg (by omega)]
 | succ n ih =>
  intro i left hn hi hl hv
  have hlt : i < (depsA g).length := by omega
  have hD : (depsA g)[i] = D g i := by simp [D, List.getD, hlt]
  obtain ⟨l', h1, h2, h3⟩ := ih (i + 1) (left.set i ((D g i).length : Int)) (by omega) (by omega) (by simpa using hl) (fun u hu => by
   rw [getD_set _ _ _ _ _ (by omega)]
   by_cases hui : u = i
   ·subst hui; rw [if_pos rfl, if_pos (by omega)]
   ·rw [if_neg hui, hv u hu]
    by_cases h4 : u < i
    ·rw [if_pos h4, if_pos (by omega)]
    ·rw [if_neg h4, if_neg (by omega)])
  refine ⟨l', (loopX_next ?_).trans h1, h2, h3⟩
  simp only [graph_net_order.s0, cb_dec, rd_lt hlt, hD, Int.toNat_natCast]
  rw [if_pos (by omega), ck_pos (by omega), ck_pos (by omega), ck_pos (by omega), ck_in (by omega) (by omega)]
  rfl
theorem order_eq (h : Right g) : (∃ R : List Nat, R ≠ [] ∧ (∀ x ∈ R, ∃ y, y ∈ R ∧ Ed g x y) ∧ graph_net_order.f (some (g, (depsA g, usersA g))) = some ([], false)) ∨
  ∃ L, Ord g L ∧ L.length = g.length ∧ graph_net_order.f (some (g, (depsA g, usersA g))) = some (ints L, true) := by
 have hgl := h.len
 obtain ⟨left, h1, h2, h3⟩ := leftLoop h g.length 0 (List.replicate g.length 0) (by omega) (by omega) (by simp) (fun u hu => by
  rw [if_neg (by omega), List.getD, List.getElem?_replicate, if_pos hu]; rfl)
 rw [show ((0 : Nat) : Int) = 0 from rfl] at h1
 have h4 := orderLoop h g.length [] left (List.replicate g.length false) (by simp) ⟨List.nodup_nil, (fun x hx => by cases hx), fun p hp => absurd hp (Nat.not_lt_zero _)⟩ h2 (by simp) (fun k hk => by
  rw [List.getD, List.getElem?_replicate, if_pos hk]; simp) (fun u hu => by
  rw [h3 u hu]
  have : cnt (D g u) [] = (D g u).length := by simp [cnt, ints]
  rw [this])
 unfold graph_net_order.f
 simp only [Option.isSome_some, Option.getD_some, Int.toNat_natCast]
 rw [ck_pos trivial, ck_pos (by omega), ck_pos trivial, h1, ob_s, ck_pos trivial, ck_pos (by omega)]
 rcases h4 with ⟨R, r1, r2, r3⟩ | ⟨L', l', d', r1, r2, r3⟩
 ·left
  refine ⟨R, r1, r2, ?_⟩
  have r3' : graph_net_order.l1 (some (g, (depsA g, usersA g))) left (List.replicate g.length false) [] = _ := r3
  rw [r3']; rfl
 ·right
  refine ⟨L', r1, r2, ?_⟩
  have r3' : graph_net_order.l1 (some (g, (depsA g, usersA g))) left (List.replicate g.length false) [] = _ := r3
  rw [r3']; rfl
end
end Go.Proofs.YtafalbofjmfbnaaDoor
set_option linter.unusedVariables false
set_option linter.unusedSimpArgs false
namespace Go.Proofs.YtafalbofjmfbnaaDoor
open Go Go.Proofs.YtafalbofjmfbnaaDoor.Eng
abbrev ND0 : Nd := (ByteArray.empty, (ByteArray.empty, (([] : List ByteArray), (([] : List ByteArray), (([] : List ByteArray), (0 : Int))))))
def labN (g : List Nd) (k : Nat) : ByteArray := (g.getD k ND0).1
theorem labN_get {g : List Nd} {k : Nat} (h : k < g.length) : labN g k = g[k].1 := by simp [labN, List.getD, h]
theorem labels_eq (g : List Nd) (dp us : List (List Int)) {L : List Nat} (hl : L.length ≤ 100000) (hg : g.length ≤ 1000) (h : ∀ x ∈ L, x < g.length) :
  graph_net_labels.f (some (g, (dp, us))) (ints L) = some (L.map (labN g)) := by
 have go : ∀ (n i : Nat) (o : List ByteArray), L.length - i = n → i ≤ L.length → o.length = i →
   graph_net_labels.l0 (some (g, (dp, us))) (ints L) ((ints L).length : Int) (i : Int) o = some (o ++ (L.drop i).map (labN g)) := by
  intro n
  induction n with
  | zero =>
   intro i o hn hi ho
   rw [List.drop_eq_nil_of_le (by omega), List.map_nil, List.append_nil]
   refine loopX_done ?_
   simp only [graph_net_labels.s0, cb_dec, List.length_map]
   rw [if_neg (by omega)]
  | succ n ih =>
   intro i o hn hi ho
   have hlt : i < L.length := by omega
   have hx := h _ (List.getElem_mem hlt)
   have hil : i < (ints L).length := by simpa using hlt
   have e : rd (0 : Int) (ints L) (i : Int) = (L[i] : Int) := by rw [rd_lt hil]; simp [ints]
   have h2 := ih (i + 1) (o ++ [labN g L[i]]) (by omega) (by omega) (by simp [ho])
   rw [List.append_assoc, List.singleton_append, ← List.map_cons, ← List.drop_eq_getElem_cons hlt] at h2
   refine (loopX_next ?_).trans h2
   simp only [graph_net_labels.s0, cb_dec, e, Option.isSome_some, Option.getD_some]
   rw [if_pos (by omega), ck_pos (by omega), ck_pos trivial, ck_pos (by omega), ck_pos (by simp only [List.length_cons, List.length_nil]; omega), ck_in (by omega) (by omega), rd_lt hx, labN_get hx]
   rfl
 unfold graph_net_labels.f
 have := go L.length 0 [] (by omega) (by omega) rfl
 rw [List.drop_zero, List.nil_append] at this
 rw [show (0 : Int) = ((0 : Nat) : Int) from rfl]
 simp only [this, ob_s]
theorem Ord.all {g : List Nd} {L : List Nat} (h : Ord g L) (hl : L.length = g.length) {i : Nat} (hi : i < g.length) : i ∈ L := by
 refine Classical.byContradiction fun hn => ?_
 have := nodup_len (n := g.length) (L := i :: L) (List.nodup_cons.2 ⟨hn, h.nodup⟩) (fun x hx => by
  rcases List.mem_cons.1 hx with h' | h'
  ·rw [h']; exact hi
  ·exact h.lt x h')
 simp at this
 omega
theorem ck_dec {β : Type} {c : Prop} [h : Decidable c] {a : Option β} : ck c a = if c then a else none := by
 unfold ck
 by_cases hc : c <;> simp [hc]
local instance (x : Int) : Decidable (InR x) := inferInstanceAs (Decidable (_ ∧ _))
def bs_97 : ByteArray := ⟨#[97]⟩
def bs_58_97 : ByteArray := ⟨#[58, 97]⟩
def one : List Nd := [(bs_47_47_58_97, (bs_107, ([], ([], ([], 0)))))]
theorem split_one : splitL bs_97 = [bs_97] := by
 have h : strings_Split.f bs_97 bs_47 = some [bs_97] := by
  have l : strings_genSplit.l0 bs_47 0 (1 - 1) bs_97 0 (List.replicate 1 ByteArray.empty) = some (bs_97, 0, List.replicate 1 ByteArray.empty) := loopX_of (n := 1) rfl
  have c : strings_Count.f bs_97 bs_47 = some 0 := by
   show ck _ _ = _
   rw [ck_pos (by rfl)]; rfl
  unfold strings_Split.f strings_genSplit.f
  simp only [c, ob_s, ck_dec]
  have e : ((min (0 + 1) (((bs_97.size : Nat) : Int) + 1) : Int)) = 1 := rfl
  simp only [e]
  have e1 : Int.toNat 1 = 1 := rfl
  simp only [e1, l, ob_s, ck_dec]
  rfl
 unfold splitL
 rw [h]; rfl
theorem whole_one : script_IsWhole.f bs_47_47_58_97 = some true := by
 have c1 : cutP bs_47_47_58_97 bs_47_47 = (bs_58_97, true) := by rfl
 have c2 : cut58 bs_58_97 = (bs_, bs_97, true) := by rfl
 have c3 : labF (bs_, bs_97) = 0 := by
  unfold labF isPathB
  rw [split_one]
  rfl
 have r : script_ReadLabel.f bs_47_47_58_97 bs_ = some ((bs_, bs_97), 0) := by
  unfold script_ReadLabel.f
  simp only [decide_true, Bool.not_true, cb_f, cutPrefix_eq, ob_s, c1, cb_t]
  rw [cut_eq (by decide), c2]
  simp only [ob_s, Bool.not_true, cb_f, checkLabel_eq, c3]
  rfl
 unfold script_IsWhole.f
 rw [r, ob_s]
 have w : script_Whole.f (bs_, bs_97) = some bs_47_47_58_97 := by
  unfold script_Whole.f
  have e1 : bs_47_47.size = 2 := rfl
  have e2 : bs_58.size = 1 := rfl
  have e3 : bs_.size = 0 := rfl
  have e4 : bs_97.size = 1 := rfl
  simp only [ByteArray.size_append, e1, e2, e3, e4]
  rw [ck_pos (by omega), ck_pos (by omega), ck_pos (by omega)]
  exact congrArg some (by decide)
 rw [w, ob_s]
 rfl
theorem name_one : script_IsName.f bs_107 = some true := by
 have l : script_IsName.l0 bs_107 1 0 = some (.inr ()) := by
  refine (loopX_next (x' := 1) ?_).trans (loopX_done ?_)
  ·simp only [script_IsName.s0, ck_dec]; rfl
  ·simp only [script_IsName.s0, ck_dec]; rfl
 obtain ⟨r, h1, h2⟩ := contS [bs_109_97_99_114_111, bs_102_111_114, bs_105_110, bs_105_102, bs_101_108_115_101, bs_117_115_101, bs_102_105_108_101_115, bs_99_104_111_111_115_101] (by decide) bs_107
 have hr : r = -1 := by
  rcases h2 with ⟨h, _⟩ | ⟨k, _, hk, he, _⟩
  ·exact h
  ·exfalso
   have hm : bs_107 ∈ _ := he ▸ List.getElem_mem hk
   simp only [List.mem_cons, List.not_mem_nil, or_false] at hm
   exact absurd hm (by decide)
 have hz : ((bs_107.size : Nat) : Int) = 1 := rfl
 unfold script_IsName.f
 simp only [hz, ck_dec, l, script_words.f, slices_Contains_string_string.f, h1, hr, ob_s]
 rfl
theorem node_one : graph_checkNode.f (bs_47_47_58_97, (bs_107, ([], ([], ([], 0))))) = some 0 := by
 have a1 : graph_rising_f136.f [] () = some 0 := by
  have l : graph_rising_f136.l0 [] [] 0 0 = some (.inr ()) := loopX_of (n := 1) rfl
  show ob (graph_rising_f136.l0 [] [] 0 0) _ = _
  rw [l]; rfl
 have a2 : graph_rising_f72.f [] () = some 0 := by
  have l : graph_rising_f72.l0 [] [] 0 0 = some (.inr ()) := loopX_of (n := 1) rfl
  show ob (graph_rising_f72.l0 [] [] 0 0) _ = _
  rw [l]; rfl
 have a3 : graph_rising_f139.f [] () = some 0 := by
  have l : graph_rising_f139.l0 [] [] 0 0 = some (.inr ()) := loopX_of (n := 1) rfl
  show ob (graph_rising_f139.l0 [] [] 0 0) _ = _
  rw [l]; rfl
 unfold graph_checkNode.f
 simp only [whole_one, name_one, a1, a2, a3, ob_s]
 rfl
theorem open_one : Right one ∧ graph_open.f one = some (some (one, (depsA one, usersA one)), 0) := by
 have l0 : graph_open.l0 one one 1 0 = some (.inr ()) := by
  refine (loopX_next (x' := 1) ?_).trans (loopX_done ?_)
  ·have e : rd ND0 one 0 = (bs_47_47_58_97, (bs_107, ([], ([], ([], 0))))) := rfl
   simp only [graph_open.s0, e, node_one, ob_s, ck_dec]
   rfl
  ·rfl
 have l2 : ∀ (a b : List (List Int)) (c : List Nd), graph_open.l2 one 0 [] 0 0 a b c = some (.inr (a, b, c)) := fun a b c => loopX_done rfl
 have l1 : graph_open.l1 one one 1 0 [[]] [[]] one = some (.inr ([[]], ([[]], one))) := by
  refine (loopX_next (x' := (1, ([[]], ([[]], one)))) ?_).trans (loopX_done ?_)
  ·have e : rd ND0 one 0 = (bs_47_47_58_97, (bs_107, ([], ([], ([], 0))))) := rfl
   have e1 : (([] : List ByteArray).length : Int) = 0 := rfl
   simp only [graph_open.s1, e, e1, l2, ob_s, ck_dec, caseS_r]
   rfl
  ·rfl
 have h : graph_open.f one = some (some (one, ([[]], [[]])), 0) := by
  have e : ((one.length : Nat) : Int) = 1 := rfl
  have e1 : List.replicate (Int.toNat 1) ([] : List Int) = [[]] := rfl
  unfold graph_open.f
  simp only [e, e1, l0, l1, ob_s, caseS_r, ck_dec, mix_eq]
  rfl
 have hs : ∀ n ∈ one, szNd n := fun n hn => by
  rw [List.mem_singleton.1 hn]
  exact ⟨by decide, fun x hx => by (cases hx), fun x hx => by (cases hx), fun x hx => by (cases hx)⟩
 rcases open_eq hs with ⟨f, h1, h2⟩ | h2
 ·rw [h2] at h
  cases h
 ·exact h2
theorem awake4 : law4_awake.f = some true := by
 obtain ⟨hr, ho⟩ := open_one
 have h : graph_Order.f one = some ([bs_47_47_58_97], 0) := by
  unfold graph_Order.f graph_tree.f
  rw [ho]
  simp only [ob_s, cb_not, cb_dec, if_true]
  rcases order_eq hr with ⟨R, r1, r2, r3⟩ | ⟨L, r1, r2, r3⟩
  ·exfalso
   obtain ⟨x, hx⟩ := List.exists_mem_of_ne_nil R r1
   obtain ⟨y, hy, he⟩ := r2 x hx
   have hx0 : x = 0 := by have := he.1; simp [one] at this; exact this
   subst hx0
   have := he.2
   rw [D_get (by decide)] at this
   cases this
  ·rw [r3]
   have hl : ([0] : List Nat) = L := by
    match L, r1, r2 with
    | [x], r1, _ =>
     have := r1.lt x (List.mem_cons_self ..)
     have : x = 0 := by simp [one] at this; exact this
     rw [this]
   subst hl
   simp only [ob_s, cb_t, if_true, labels_eq one _ _ (L := [0]) (by decide) (by decide) r1.lt]
   rfl
 unfold law4_awake.f
 show ob (graph_Order.f one) _ = _
 rw [h]
 simp only [ob_s, ck_dec]
 rfl
end Go.Proofs.YtafalbofjmfbnaaDoor
set_option linter.unusedVariables false
set_option linter.unusedSimpArgs false
namespace Go.Proofs.YtafalbofjmfbnaaDoor
open Go Go.Proofs.YtafalbofjmfbnaaDoor.Eng
theorem contB {l : List ByteArray} (hl : l.length ≤ 1000000000) (x : ByteArray) : ∃ b : Bool, slices_Contains_string_string.f l x = some b ∧ (b = true ↔ x ∈ l) := by
 obtain ⟨r, h1, h2⟩ := contS l hl x
 refine ⟨decide (0 ≤ r), ?_, ?_⟩
 ·unfold slices_Contains_string_string.f
  rw [h1]; rfl
 ·rw [decide_eq_true_eq]
  rcases h2 with ⟨h3, h4⟩ | ⟨k, h3, h4, h5, _⟩
  ·exact ⟨fun h => by omega, fun h => absurd h h4⟩
  ·exact ⟨fun _ => h5 ▸ List.getElem_mem h4, fun _ => by omega⟩
noncomputable abbrev net (g : List Nd) : Option (List Nd × (List (List Int) × List (List Int))) := some (g, (depsA g, usersA g))
section
variable {g : List Nd}
end
end Go.Proofs.YtafalbofjmfbnaaDoor
set_option linter.unusedVariables false
set_option linter.unusedSimpArgs false
namespace Go.Proofs.YtafalbofjmfbnaaDoor
open Go Go.Proofs.YtafalbofjmfbnaaDoor.Eng
def unr : List Int → Nat
 | [] => 0
 | x :: l => (if x < 0 then 1 else 0) + unr l
theorem unr_le : ∀ l : List Int, unr l ≤ l.length
 | [] => Nat.le_refl _
 | x :: l => by have := unr_le l; simp only [unr, List.length_cons]; split <;> omega
theorem unr_set : ∀ (l : List Int) (k : Nat) (v : Int), k < l.length → l.getD k 0 < 0 → 0 ≤ v → unr (l.set k v) + 1 = unr l
 | [], k, v, h, _, _ => absurd h (Nat.not_lt_zero _)
 | x :: l, 0, v, _, h1, h2 => by
  have h1' : x < 0 := by simpa using h1
  simp only [List.set_cons_zero, unr]
  rw [if_pos h1', if_neg (by omega)]
  omega
 | x :: l, k + 1, v, h, h1, h2 => by
  have := unr_set l k v (by simpa using h) (by simpa using h1) h2
  simp only [List.set_cons_succ, unr]
  omega
def Ad (adj : List (List Int)) (k y : Nat) : Prop := k < adj.length ∧ (y : Int) ∈ adj.getD k []
structure Bf (adj : List (List Int)) (S : List Nat) (d : List Int) (q : List Nat) (pend : Nat → Prop) : Prop where
 len : d.length = adj.length
 low : ∀ k, k < adj.length → d.getD k 0 = -1 ∨ 0 ≤ d.getD k 0
 src : ∀ k, k < adj.length → (d.getD k 0 = 0 ↔ k ∈ S)
 back : ∀ y, y < adj.length → 0 < d.getD y 0 → ∃ k, k < adj.length ∧ Ad adj k y ∧ d.getD k 0 = d.getD y 0 - 1
 qlt : ∀ x ∈ q, x < adj.length ∧ 0 ≤ d.getD x 0
 cnt : unr d + q.length ≤ adj.length
 top : ∀ k, k < adj.length → d.getD k 0 + (unr d : Int) ≤ (adj.length : Int)
 sorted : q.Pairwise fun a b => d.getD a 0 ≤ d.getD b 0
 step : ∀ k y, k < adj.length → Ad adj k y → 0 ≤ d.getD k 0 → k ∉ q → ¬ pend k → 0 ≤ d.getD y 0 ∧ d.getD y 0 ≤ d.getD k 0 + 1
section
variable {adj : List (List Int)} {S : List Nat}
theorem nearLoop (hn : adj.length ≤ 1000) (hA : ∀ k y, k < adj.length → y ∈ adj.getD k [] → ∃ u : Nat, y = u ∧ u < adj.length) {h : Nat} (hh : h < adj.length) (hl : (adj.getD h []).length ≤ 1000000) :
  ∀ (n j : Nat) (d : List Int) (q : List Nat), (adj.getD h []).length - j = n → j ≤ (adj.getD h []).length → Bf adj S d q (· = h) → 0 ≤ d.getD h 0 → (∀ x ∈ q, d.getD h 0 ≤ d.getD x 0) → (∀ y, y < adj.length → d.getD y 0 ≤ d.getD h 0 + 1) →
   (∀ u : Nat, (u : Int) ∈ (adj.getD h []).take j → 0 ≤ d.getD u 0) →
   ∃ d' q', graph_steps.l3 (h : Int) (adj.getD h []) ((adj.getD h []).length : Int) (j : Int) d (ints q) = some (d', ints q') ∧ Bf adj S d' q' (fun _ => False) ∧ (∀ x ∈ q', ∀ y, y < adj.length → d'.getD y 0 ≤ d'.getD x 0 + 1) ∧
    2 * unr d' + q'.length ≤ 2 * unr d + q.length := by
 intro n
 induction n with
 | zero =>
  intro j d q hj hjl hb h0 hq hy ht
  refine ⟨d, q, loopX_done ?_, ⟨hb.len, hb.low, hb.src, hb.back, hb.qlt, hb.cnt, hb.top, hb.sorted, fun k y hk he hd hkq _ => ?_⟩, fun x hx y hyl => ?_, Nat.le_refl _⟩
  ·simp only [graph_steps.s3, cb_dec]
   rw [if_neg (by omega)]
  ·by_cases e : k = h
   ·subst e
    rw [List.take_of_length_le (by omega)] at ht
    obtain ⟨u, hu1, hu2⟩ := hA k y hk he.2
    have : y = u := by omega
    exact ⟨ht y he.2, hy y (by omega)⟩
   ·exact hb.step k y hk he hd hkq e
  ·have h1 := hq x hx
   have h2 := hy y hyl
   omega
 | succ n ih =>
  intro j d q hj hjl hb h0 hq hy ht
  have hlt : j < (adj.getD h []).length := by omega
  have hm : (adj.getD h [])[j] ∈ adj.getD h [] := List.getElem_mem hlt
  obtain ⟨u, hu1, hu2⟩ := hA h _ hh hm
  have hE : Ad adj h u := ⟨hh, hu1 ▸ hm⟩
  have hlen := hb.len
  have hul := unr_le d
  have hcnt := hb.cnt
  have htk : ∀ w : Nat, (w : Int) ∈ (adj.getD h []).take (j + 1) → w = u ∨ (w : Int) ∈ (adj.getD h []).take j := fun w hw => by
   rw [List.take_succ_eq_append_getElem hlt, List.mem_append, List.mem_singleton, hu1] at hw
   rcases hw with hw | hw
   ·exact .inr hw
   ·exact .inl (by omega)
  by_cases hneg : d.getD u 0 < 0
  ·have huh : u ≠ h := fun e => by rw [e] at hneg; omega
   have huq : u ∉ q := fun hm => by have := (hb.qlt u hm).2; omega
   have hg : ∀ w, (d.set u (d.getD h 0 + 1)).getD w 0 = if w = u then d.getD h 0 + 1 else d.getD w 0 := fun w => getD_set _ _ _ _ _ (by omega)
   have hgh : (d.set u (d.getD h 0 + 1)).getD h 0 = d.getD h 0 := by rw [hg, if_neg (fun e => huh e.symm)]
   have hun := unr_set d u (d.getD h 0 + 1) (by omega) hneg (by omega)
   have hgr : ∀ w, 0 ≤ d.getD w 0 → (d.set u (d.getD h 0 + 1)).getD w 0 = d.getD w 0 := fun w hw => by
    rw [hg, if_neg (fun e => by rw [e] at hw; omega)]
   obtain ⟨d', q', g1, g2, g3, g4⟩ := ih (j + 1) (d.set u (d.getD h 0 + 1)) (q ++ [u]) (by omega) (by omega)
    ⟨by
     simpa using hlen, fun k hk => by
     rw [hg]; split
     ·exact .inr (by omega)
     ·exact hb.low k hk,
     fun k hk => by
      rw [hg]; split
      ·rename_i e
       constructor
       ·intro h; omega
       ·intro hk'
        have := (hb.src k hk).2 hk'
        rw [e] at this; omega
      ·exact hb.src k hk,
     fun y hyl hp => by
      rw [hg] at hp ⊢
      split at hp
      ·rename_i e
       rw [if_pos e]
       exact ⟨h, hh, e ▸ hE, by rw [hgh]; omega⟩
      ·rename_i e
       rw [if_neg e]
       obtain ⟨k, k1, k2, k3⟩ := hb.back y hyl hp
       exact ⟨k, k1, k2, by rw [hgr k (by omega)]; exact k3⟩,
     fun x hx => by
      rcases List.mem_append.1 hx with hx | hx
      ·have := hb.qlt x hx
       exact ⟨this.1, by rw [hgr x this.2]; exact this.2⟩
      ·rw [List.mem_singleton.1 hx]
       exact ⟨hu2, by rw [hg, if_pos rfl]; omega⟩,
     by simp only [List.length_append, List.length_cons, List.length_nil]; omega,
     fun k hk => by
      have h1 := hb.top k hk
      have h2 := hb.top h hh
      rw [hg]; split <;> omega,
     by
      rw [List.pairwise_append]
      refine ⟨hb.sorted.imp_of_mem fun {a b} ha hb' hab => ?_, List.pairwise_singleton _ _, fun a ha b hb' => ?_⟩
      ·rw [hgr a (hb.qlt a ha).2, hgr b (hb.qlt b hb').2]; exact hab
      ·rw [List.mem_singleton.1 hb', hgr a (hb.qlt a ha).2, hg u, if_pos rfl]
       exact hy a (hb.qlt a ha).1,
     fun k y hk he hd hkq hp => by
      have hku : k ≠ u := fun e => hkq (List.mem_append.2 (.inr (List.mem_singleton.2 e)))
      rw [hg, if_neg hku] at hd
      have := hb.step k y hk he hd (fun hm => hkq (List.mem_append.2 (.inl hm))) hp
      rw [hgr y this.1, hgr k hd]
      exact this⟩
    (by rw [hgh]; exact h0)
    (fun x hx => by
     rw [hgh]
     rcases List.mem_append.1 hx with hx | hx
     ·rw [hgr x (hb.qlt x hx).2]; exact hq x hx
     ·rw [List.mem_singleton.1 hx, hg, if_pos rfl]; omega)
    (fun y hyl => by
     rw [hgh, hg]
     split
     ·omega
     ·exact hy y hyl)
    (fun w hw => by
     rcases htk w hw with e | hw
     ·rw [hg, if_pos e]; omega
     ·rw [hgr w (ht w hw)]; exact ht w hw)
   refine ⟨d', q', (loopX_next ?_).trans g1, g2, g3, by simp only [List.length_append, List.length_cons, List.length_nil] at g4; omega⟩
   have hdl := unr_le d
   have hhy := hy h hh
   have hdh : d.getD h 0 ≤ 1000 := by have := hb.top h hh; omega
   have hint : ints (q ++ [u]) = ints q ++ [(u : Int)] := by simp [ints]
   simp only [graph_steps.s3, cb_dec, rd_lt hlt, hu1, Int.toNat_natCast]
   rw [if_pos (by omega), ck_pos (by omega), ck_pos (by omega), ck_pos (by omega), if_pos hneg, ck_pos (by omega), ck_pos (by omega), ck_in (by omega) (by omega), ck_pos (by omega), ck_pos (by omega), ck_pos (by simp only [List.length_map, List.length_cons, List.length_nil]; omega), ck_in (by omega) (by omega), hint]
   rfl
  ·obtain ⟨d', q', g1, g2, g3, g4⟩ := ih (j + 1) d q (by omega) (by omega) hb h0 hq hy (fun w hw => by
    rcases htk w hw with e | hw
    ·rw [e]; omega
    ·exact ht w hw)
   refine ⟨d', q', (loopX_next ?_).trans g1, g2, g3, g4⟩
   simp only [graph_steps.s3, cb_dec, rd_lt hlt, hu1, Int.toNat_natCast]
   rw [if_pos (by omega), ck_pos (by omega), ck_pos (by omega), ck_pos (by omega), if_neg hneg, ck_in (by omega) (by omega)]
   rfl
theorem outLoop (hn : adj.length ≤ 1000) (hA : ∀ k y, k < adj.length → y ∈ adj.getD k [] → ∃ u : Nat, y = u ∧ u < adj.length) (hL : ∀ k, k < adj.length → (adj.getD k []).length ≤ 1000000) :
  ∀ (n : Nat) (d : List Int) (q : List Nat), 2 * unr d + q.length ≤ n → Bf adj S d q (fun _ => False) → (∀ x ∈ q, ∀ y, y < adj.length → d.getD y 0 ≤ d.getD x 0 + 1) →
   ∃ d' o, graph_steps.l2 adj d (ints q) = some (d', o) ∧ Bf adj S d' [] (fun _ => False) := by
 intro n
 induction n with
 | zero =>
  intro d q hq hb hy
  have hq0 : q = [] := List.eq_nil_of_length_eq_zero (by omega)
  subst hq0
  refine ⟨d, [], loopX_done ?_, hb⟩
  rfl
 | succ n ih =>
  intro d q hq hb hy
  cases q with
  | nil => exact ⟨d, [], loopX_done (by rfl), hb⟩
  | cons h q =>
   obtain ⟨hh, h0⟩ := hb.qlt h (List.mem_cons_self ..)
   have hs := List.pairwise_cons.1 hb.sorted
   obtain ⟨d', q', g1, g2, g3, g4⟩ := nearLoop hn hA hh (hL h hh) _ 0 d q rfl (Nat.zero_le _)
    ⟨hb.len, hb.low, hb.src, hb.back, fun x hx => hb.qlt x (List.mem_cons_of_mem _ hx), by have := hb.cnt; simp only [List.length_cons] at this; omega, hb.top, hs.2,
     fun k y hk he hd hkq hp => hb.step k y hk he hd (fun hm => by rcases List.mem_cons.1 hm with e | hm; (· exact hp e); (· exact hkq hm)) (fun h => h)⟩
    h0 hs.1 (hy h (List.mem_cons_self ..)) (fun u hu => by simp at hu)
   simp only [List.length_cons] at hq
   obtain ⟨d2, o, k1, k2⟩ := ih d' q' (by omega) g2 g3
   refine ⟨d2, o, (loopX_next (x' := (d', ints q')) ?_).trans k1, k2⟩
   rw [show ((0 : Nat) : Int) = 0 from rfl] at g1
   have hql := hb.cnt
   simp only [List.length_cons] at hql
   have e0 : List.getD (ints (h :: q)) (Int.toNat 0) 0 = (h : Int) := rfl
   have e1 : List.drop (Int.toNat 1) (ints (h :: q)) = ints q := rfl
   have er : rd ([] : List Int) adj (h : Int) = adj.getD h [] := by rw [rd_lt hh]; simp [List.getD, hh]
   have el : (ints (h :: q)).length = q.length + 1 := by simp
   simp only [graph_steps.s2, cb_dec, e0, e1, er, g1, el]
   rw [if_pos (by omega), ck_pos (by omega), ck_pos (by rw [show Int.toNat 0 = 0 from rfl]; omega), ck_pos (by omega), ck_pos (by omega), ck_pos (by rw [show Int.toNat 1 = 1 from rfl]; omega), ob_s]
theorem fillLoop {m : Nat} (hm : m ≤ 1000) : ∀ (n i : Nat) (d : List Int), m - i = n → i ≤ m → d.length = m → (∀ k, k < i → d.getD k 0 = -1) →
  ∃ d', graph_steps.l0 (m : Int) (i : Int) d = some d' ∧ d'.length = m ∧ ∀ k, k < m → d'.getD k 0 = -1 := by
 intro n
 induction n with
 | zero =>
  intro i d hi him hd hv
  refine ⟨d, loopX_done ?_, hd, fun k hk => hv k (by omega)⟩
  simp only [graph_steps.s0, cb_dec]
  rw [if_neg (by omega)]
 | succ n ih =>
  intro i d hi him hd hv
  obtain ⟨d', h1, h2, h3⟩ := ih (i + 1) (d.set i (-1)) (by omega) (by omega) (by simpa using hd) (fun k hk => by
   rw [getD_set _ _ _ _ _ (by omega)]
   split
   ·rfl
   ·exact hv k (by omega))
  refine ⟨d', (loopX_next ?_).trans h1, h2, h3⟩
  simp only [graph_steps.s0, cb_dec, Int.toNat_natCast]
  rw [if_pos (by omega), ck_pos (by omega), ck_pos (by omega), ck_in (by omega) (by omega)]
  rfl
theorem srcLoop (hn : adj.length ≤ 1000) (hS : ∀ s ∈ S, s < adj.length) (hSl : S.length ≤ 1000000) : ∀ (n i : Nat) (d : List Int) (q : List Nat), S.length - i = n → i ≤ S.length → d.length = adj.length →
  (∀ k, k < adj.length → d.getD k 0 = if k ∈ S.take i then 0 else -1) → (∀ k, k ∈ q ↔ k ∈ S.take i) → unr d + q.length ≤ adj.length →
   ∃ d' q', graph_steps.l1 (ints S) ((ints S).length : Int) (i : Int) d (ints q) = some (d', ints q') ∧ d'.length = adj.length ∧ (∀ k, k < adj.length → d'.getD k 0 = if k ∈ S then 0 else -1) ∧ (∀ k, k ∈ q' ↔ k ∈ S) ∧ unr d' + q'.length ≤ adj.length := by
 intro n
 induction n with
 | zero =>
  intro i d q hi hil hd hv hq hc
  rw [List.take_of_length_le (by omega)] at hv hq
  refine ⟨d, q, loopX_done ?_, hd, hv, hq, hc⟩
  simp only [graph_steps.s1, cb_dec, List.length_map]
  rw [if_neg (by omega)]
 | succ n ih =>
  intro i d q hi hil hd hv hq hc
  have hlt : i < S.length := by omega
  have hs := hS _ (List.getElem_mem hlt)
  have hil' : i < (ints S).length := by simpa using hlt
  have e : rd (0 : Int) (ints S) (i : Int) = (S[i] : Int) := by rw [rd_lt hil']; simp [ints]
  have ht : ∀ k, k ∈ S.take (i + 1) ↔ k ∈ S.take i ∨ k = S[i] := fun k => by
   rw [List.take_succ_eq_append_getElem hlt, List.mem_append, List.mem_singleton]
  by_cases hneg : d.getD S[i] 0 < 0
  ·have hni : S[i] ∉ S.take i := fun hm => by rw [hv _ hs, if_pos hm] at hneg; omega
   have hun := unr_set d S[i] 0 (by omega) hneg (by omega)
   have hint : ints (q ++ [S[i]]) = ints q ++ [(S[i] : Int)] := by simp [ints]
   obtain ⟨d', q', h1, h2⟩ := ih (i + 1) (d.set S[i] 0) (q ++ [S[i]]) (by omega) (by omega) (by simpa using hd) (fun k hk => by
    rw [getD_set _ _ _ _ _ (by omega)]
    by_cases hks : k = S[i]
    ·rw [if_pos hks, if_pos ((ht k).2 (.inr hks))]
    ·rw [if_neg hks, hv k hk]
     by_cases hk2 : k ∈ S.take i
     ·rw [if_pos hk2, if_pos ((ht k).2 (.inl hk2))]
     ·rw [if_neg hk2, if_neg (fun h => ((ht k).1 h).elim hk2 hks)]) (fun k => by
    rw [ht, List.mem_append, List.mem_singleton, hq]) (by simp only [List.length_append, List.length_cons, List.length_nil]; omega)
   refine ⟨d', q', (loopX_next ?_).trans h1, h2⟩
   simp only [graph_steps.s1, cb_dec, e, Int.toNat_natCast]
   rw [if_pos (by omega), ck_pos (by omega), ck_pos (by omega), ck_pos (by omega), if_pos hneg, ck_pos (by omega), ck_pos (by omega), ck_pos (by simp only [List.length_map, List.length_cons, List.length_nil]; omega), ck_in (by omega) (by omega), hint]
   rfl
  ·have hyi : S[i] ∈ S.take i := Classical.byContradiction fun hm => by rw [hv _ hs, if_neg hm] at hneg; omega
   obtain ⟨d', q', h1, h2⟩ := ih (i + 1) d q (by omega) (by omega) hd (fun k hk => by
    rw [hv k hk]
    by_cases hk2 : k ∈ S.take i
    ·rw [if_pos hk2, if_pos ((ht k).2 (.inl hk2))]
    ·rw [if_neg hk2, if_neg (fun h => ((ht k).1 h).elim hk2 (fun e => hk2 (e ▸ hyi)))]) (fun k => by
    rw [ht, hq]
    exact ⟨.inl, fun h => h.elim (fun h => h) (fun e => e ▸ hyi)⟩) hc
   refine ⟨d', q', (loopX_next ?_).trans h1, h2⟩
   simp only [graph_steps.s1, cb_dec, e, Int.toNat_natCast]
   rw [if_pos (by omega), ck_pos (by omega), ck_pos (by omega), ck_pos (by omega), if_neg hneg, ck_in (by omega) (by omega)]
   rfl
theorem steps_eq (hn : adj.length ≤ 1000) (hA : ∀ k y, k < adj.length → y ∈ adj.getD k [] → ∃ u : Nat, y = u ∧ u < adj.length) (hL : ∀ k, k < adj.length → (adj.getD k []).length ≤ 1000000) (hS : ∀ s ∈ S, s < adj.length) (hSl : S.length ≤ 1000000) :
  ∃ d, graph_steps.f adj (ints S) = some d ∧ d.length = adj.length ∧ Far adj.length (Ad adj) (· ∈ S) (fun k => d.getD k 0) ∧ ∀ k, k < adj.length → d.getD k 0 ≤ (adj.length : Int) := by
 obtain ⟨d0, a1, a2, a3⟩ := fillLoop hn adj.length 0 (List.replicate adj.length 0) (by omega) (by omega) (by simp) (fun k hk => absurd hk (Nat.not_lt_zero _))
 have hu0 := unr_le d0
 obtain ⟨d1, q1, b1, b2, b3, b4, b5⟩ := srcLoop (S := S) hn hS hSl S.length 0 d0 [] (by omega) (by omega) a2 (fun k hk => by rw [a3 k hk]; simp) (fun k => by simp) (by simp; omega)
 have hu1 := unr_le d1
 have hb : Bf adj S d1 q1 (fun _ => False) := by
  refine ⟨b2, fun k hk => ?_, fun k hk => ?_, fun y hy hp => ?_, fun x hx => ?_, b5, fun k hk => ?_, ?_, fun k y hk he hd hkq _ => ?_⟩
  ·rw [b3 k hk]; split <;> omega
  ·rw [b3 k hk]; split
   ·exact ⟨fun _ => by assumption, fun _ => rfl⟩
   ·exact ⟨fun h => by omega, fun h => by contradiction⟩
  ·rw [b3 y hy] at hp; split at hp <;> omega
  ·have hxs := (b4 x).1 hx
   exact ⟨hS x hxs, by rw [b3 x (hS x hxs), if_pos hxs]; omega⟩
  ·rw [b3 k hk]; split <;> omega
  ·rw [List.pairwise_iff_forall_sublist]
   intro a b hab
   have ha := (b4 a).1 (hab.subset (by simp))
   have hb' := (b4 b).1 (hab.subset (by simp))
   rw [b3 a (hS a ha), b3 b (hS b hb'), if_pos ha, if_pos hb']
   omega
  ·rw [b3 k hk] at hd
   split at hd
   ·exact absurd ((b4 k).2 (by assumption)) hkq
   ·omega
 obtain ⟨d2, o, c1, c2⟩ := outLoop hn hA hL _ d1 q1 (Nat.le_refl _) hb (fun x hx y hy => by
  have hxs := (b4 x).1 hx
  rw [b3 y hy, b3 x (hS x hxs), if_pos hxs]
  split <;> omega)
 refine ⟨d2, ?_, c2.len, ⟨c2.low, c2.src, fun k y hk he hd => c2.step k y hk he hd (by simp) (fun h => h), c2.back⟩, fun k hk => by have := c2.top k hk; omega⟩
 unfold graph_steps.f
 rw [show ((0 : Nat) : Int) = 0 from rfl] at a1 b1
 have b1' : graph_steps.l1 (ints S) ((ints S).length : Int) 0 d0 [] = some (d1, ints q1) := b1
 simp only [Int.toNat_natCast, List.length_replicate, a1, ob_s, b1', c1]
 rw [ck_pos (by omega)]
end
end Go.Proofs.YtafalbofjmfbnaaDoor
set_option linter.unusedVariables false
set_option linter.unusedSimpArgs false
namespace Go.Proofs.YtafalbofjmfbnaaDoor
open Go Go.Proofs.YtafalbofjmfbnaaDoor.Eng
section
variable {g : List Nd}
theorem ad_deps {k y : Nat} : Ad (depsA g) k y ↔ Ed g k y := by
 have : (depsA g).length = g.length := by simp [depsA]
 unfold Ad Ed D
 rw [this]
theorem ad_users {k y : Nat} (h : Right g) : Ad (usersA g) k y ↔ Ed g y k := by
 have hl : (usersA g).length = g.length := by simp [usersA]
 unfold Ad
 rw [hl]
 constructor
 ·rintro ⟨hk, hm⟩
  have e : (usersA g).getD k [] = U g g.length k := by simp [usersA, List.getD, hk]
  rw [e] at hm
  obtain ⟨q, h1, h2, h3⟩ := U_mem.1 hm
  have : y = q := by omega
  subst this
  exact ⟨h2, h3⟩
 ·intro he
  have hk := (h.ed_lt he).2
  have e : (usersA g).getD k [] = U g g.length k := by simp [usersA, List.getD, hk]
  rw [e]
  exact ⟨hk, U_mem.2 ⟨y, rfl, he.1, he.2⟩⟩
def Dir (g : List Nd) (up : Bool) : Nat → Nat → Prop := fun a b => if up then Ed g b a else Ed g a b
theorem steps_net (h : Right g) (up : Bool) {S : List Nat} (hS : ∀ s ∈ S, s < g.length) (hSl : S.length ≤ 1000) :
  ∃ d : List Int, graph_steps.f (if up then usersA g else depsA g) (ints S) = some d ∧ d.length = g.length ∧ Far g.length (Dir g up) (· ∈ S) (fun k => d.getD k 0) ∧ ∀ k, k < g.length → d.getD k 0 ≤ (g.length : Int) := by
 have hgl := h.len
 have hl : (if up then usersA g else depsA g).length = g.length := by cases up <;> simp [usersA, depsA]
 have hD : ∀ k y, Ad (if up then usersA g else depsA g) k y ↔ Dir g up k y := fun k y => by
  cases up
  ·exact ad_deps
  ·exact ad_users h
 obtain ⟨d, h1, h2, h3, h4⟩ := steps_eq (adj := if up then usersA g else depsA g) (S := S) (by omega) (fun k y hk hy => by
  rw [hl] at hk ⊢
  cases up with
  | true =>
   have e : (usersA g).getD k [] = U g g.length k := by simp [usersA, List.getD, hk]
   simp only [if_true, e] at hy
   obtain ⟨q, h1, h2, h3⟩ := U_mem.1 hy
   exact ⟨q, h1, h2⟩
  | false =>
   exact h.D_mem hk hy) (fun k hk => by
  rw [hl] at hk
  cases up with
  | true =>
   have e : (usersA g).getD k [] = U g g.length k := by simp [usersA, List.getD, hk]
   simp only [if_true, e]
   have := U_len g g.length k
   omega
  | false =>
   show (D g k).length ≤ _
   rw [D_get hk, List.length_map]
   have := (h.nd _ (List.getElem_mem hk)).1
   omega) (fun s hs => by rw [hl]; exact hS s hs) (by omega)
 rw [hl] at h2 h3 h4
 refine ⟨d, h1, h2, ⟨h3.low, h3.src, fun k y hk he => h3.step k y hk ((hD k y).2 he), fun y hy hp => ?_⟩, h4⟩
 obtain ⟨k, k1, k2, k3⟩ := h3.back y hy hp
 exact ⟨k, k1, (hD k y).1 k2, k3⟩
theorem dir_lt (h : Right g) (up : Bool) {k y : Nat} (e : Dir g up k y) : k < g.length ∧ y < g.length := by
 cases up
 ·exact h.ed_lt e
 ·exact ⟨(h.ed_lt e).2, (h.ed_lt e).1⟩
end
end Go.Proofs.YtafalbofjmfbnaaDoor
set_option linter.unusedVariables false
set_option linter.unusedSimpArgs false
namespace Go.Proofs.YtafalbofjmfbnaaDoor
open Go Go.Proofs.YtafalbofjmfbnaaDoor.Eng
def Wi (n : Nat) (d : List Int) (m : Int) : List Nat := (List.range n).filter fun k => decide (0 ≤ d.getD k 0 ∧ (m < 0 ∨ d.getD k 0 ≤ m))
theorem mem_Wi {n : Nat} {d : List Int} {m : Int} {k : Nat} : k ∈ Wi n d m ↔ k < n ∧ 0 ≤ d.getD k 0 ∧ (m < 0 ∨ d.getD k 0 ≤ m) := by
 unfold Wi
 rw [List.mem_filter, List.mem_range, decide_eq_true_eq]
theorem Wi_succ (n : Nat) (d : List Int) (m : Int) : Wi (n + 1) d m = Wi n d m ++ (if 0 ≤ d.getD n 0 ∧ (m < 0 ∨ d.getD n 0 ≤ m) then [n] else []) := by
 unfold Wi
 rw [List.range_succ, List.filter_append]
 congr 1
 by_cases h : 0 ≤ d.getD n 0 ∧ (m < 0 ∨ d.getD n 0 ≤ m)
 ·rw [if_pos h, List.filter_cons, if_pos (decide_eq_true h)]; rfl
 ·rw [if_neg h, List.filter_cons, if_neg (by simpa only [decide_eq_true_eq] using h)]; rfl
theorem Wi_len (n : Nat) (d : List Int) (m : Int) : (Wi n d m).length ≤ n := by
 have := List.length_filter_le (fun k => decide (0 ≤ d.getD k 0 ∧ (m < 0 ∨ d.getD k 0 ≤ m))) (List.range n)
 rw [List.length_range] at this
 exact this
theorem withinLoop {d : List Int} {m : Int} (hd : d.length ≤ 1000) : ∀ (n i : Nat), d.length - i = n → i ≤ d.length → graph_within.l0 m d (d.length : Int) (i : Int) (ints (Wi i d m)) = some (ints (Wi d.length d m)) := by
 intro n
 induction n with
 | zero =>
  intro i hn hi
  have e : i = d.length := by omega
  subst e
  refine loopX_done ?_
  simp only [graph_within.s0, cb_dec]
  rw [if_neg (by omega)]
 | succ n ih =>
  intro i hn hi
  have hlt : i < d.length := by omega
  have hl := Wi_len i d m
  refine (loopX_next ?_).trans (ih (i + 1) (by omega) (by omega))
  have er : rd (0 : Int) d (i : Int) = d.getD i 0 := by rw [rd_lt hlt]; simp [List.getD, hlt]
  have hadd : ints (Wi i d m) ++ [(i : Int)] = ints (Wi i d m ++ [i]) := by simp [ints]
  simp only [graph_within.s0, cb_dec, er, Wi_succ]
  rw [if_pos (by omega), ck_pos (by omega)]
  by_cases h1 : 0 ≤ d.getD i 0
  ·rw [if_pos h1]
   by_cases h2 : m < 0
   ·rw [if_pos h2, ck_pos (by simp only [List.length_map, List.length_cons, List.length_nil]; omega), ck_in (by omega) (by omega), if_pos ⟨h1, .inl h2⟩, hadd]; rfl
   ·rw [if_neg h2]
    by_cases h3 : d.getD i 0 ≤ m
    ·rw [if_pos h3, ck_pos (by simp only [List.length_map, List.length_cons, List.length_nil]; omega), ck_in (by omega) (by omega), if_pos ⟨h1, .inr h3⟩, hadd]; rfl
    ·rw [if_neg h3, ck_in (by omega) (by omega), if_neg (fun h => h.2.elim h2 h3), List.append_nil]; rfl
  ·rw [if_neg h1, ck_in (by omega) (by omega), if_neg (fun h => h1 h.1), List.append_nil]; rfl
section
variable {g : List Nd}
theorem within_eq (h : Right g) (up : Bool) {S : List Nat} (hS : ∀ s ∈ S, s < g.length) (hSl : S.length ≤ 1000) (m : Int) :
  ∃ d : List Int, Far g.length (Dir g up) (· ∈ S) (fun k => d.getD k 0) ∧ graph_within.f (if up then usersA g else depsA g) (ints S) m = some (ints (Wi g.length d m)) ∧ d.length = g.length ∧ graph_steps.f (if up then usersA g else depsA g) (ints S) = some d := by
 have hgl := h.len
 obtain ⟨d, h1, h2, h3, _⟩ := steps_net h up hS hSl
 refine ⟨d, h3, ?_, h2, h1⟩
 unfold graph_within.f
 have h4 := withinLoop (d := d) (m := m) (by omega) d.length 0 (by omega) (by omega)
 have h4' : graph_within.l0 m d (d.length : Int) 0 [] = some (ints (Wi d.length d m)) := h4
 simp only [h1, ob_s, h4']
 rw [h2]
end
end Go.Proofs.YtafalbofjmfbnaaDoor
set_option linter.unusedVariables false
set_option linter.unusedSimpArgs false
namespace Go.Proofs.YtafalbofjmfbnaaDoor
open Go Go.Proofs.YtafalbofjmfbnaaDoor.Eng
section
variable {g : List Nd}
structure Shortest (g : List Nd) (d : List Int) (a b : Nat) (W : List Nat) : Prop where
 len : (W.length : Int) = d.getD a 0 + 1
 lt : ∀ x ∈ W, x < g.length
 at0 : W[0]? = some a
 dist : ∀ i : Nat, ∀ hi : i < W.length, d.getD W[i] 0 = d.getD a 0 - i
 ed : ∀ i : Nat, ∀ hi : i + 1 < W.length, Ed g W[i] W[i + 1]
 last : W[W.length - 1]? = some b
end
end Go.Proofs.YtafalbofjmfbnaaDoor
set_option linter.unusedVariables false
set_option linter.unusedSimpArgs false
namespace Go.Proofs.YtafalbofjmfbnaaDoor
open Go Go.Proofs.YtafalbofjmfbnaaDoor.Eng
section
variable {g : List Nd}
end
end Go.Proofs.YtafalbofjmfbnaaDoor
set_option linter.unusedVariables false
set_option linter.unusedSimpArgs false
namespace Go.Proofs.YtafalbofjmfbnaaDoor
open Go Go.Proofs.YtafalbofjmfbnaaDoor.Eng
section
variable {g : List Nd}
end
end Go.Proofs.YtafalbofjmfbnaaDoor
set_option linter.unusedVariables false
set_option linter.unusedSimpArgs false
namespace Go.Proofs.YtafalbofjmfbnaaDoor
open Go Go.Proofs.YtafalbofjmfbnaaDoor.Eng
section
variable {g : List Nd}
end
end Go.Proofs.YtafalbofjmfbnaaDoor
set_option linter.unusedVariables false
set_option linter.unusedSimpArgs false
namespace Go.Proofs.YtafalbofjmfbnaaDoor
open Go Go.Proofs.YtafalbofjmfbnaaDoor.Eng
section
variable {g : List Nd}
theorem tree_eq (hs : ∀ n ∈ g, szNd n) : (∃ f : Int, f ≠ 0 ∧ graph_tree.f g = some (none, ([], f))) ∨ (Right g ∧ ∃ L, Ord g L ∧ L.length = g.length ∧ graph_tree.f g = some (net g, (ints L, 0))) := by
 unfold graph_tree.f
 rcases open_eq hs with ⟨f, h1, h2⟩ | ⟨h, h2⟩
 ·rw [h2]
  simp only [ob_s, cb_not, cb_dec, if_neg h1]
  exact .inl ⟨f, h1, rfl⟩
 ·rw [h2]
  simp only [ob_s, cb_not, cb_dec, if_true]
  rcases order_eq h with ⟨R, r1, r2, r3⟩ | ⟨L, r1, r2, r3⟩
  ·left
   rw [r3]
   exact ⟨17, by decide, rfl⟩
  ·rw [r3]
   exact .inr ⟨h, L, r1, r2, rfl⟩
end
end Go.Proofs.YtafalbofjmfbnaaDoor
set_option linter.unusedVariables false
set_option linter.unusedSimpArgs false
namespace Go.Proofs.YtafalbofjmfbnaaDoor
open Go Go.Proofs.YtafalbofjmfbnaaDoor.Eng
theorem equalS {l : List ByteArray} (hl : l.length ≤ 1000000000) : slices_Equal_string_string.f l l = some true := by
 have go : ∀ (n k : Nat), l.length - k = n → slices_Equal_string_string.l0 l l (l.length : Int) (k : Int) = some (.inr ()) := by
  intro n
  induction n with
  | zero =>
   intro k hn
   refine loopX_done ?_
   simp only [slices_Equal_string_string.s0, cb_dec]
   rw [if_neg (by omega)]
  | succ n ih =>
   intro k hn
   have hlt : k < l.length := by omega
   refine (loopX_next ?_).trans (ih (k + 1) (by omega))
   simp only [slices_Equal_string_string.s0, cb_dec, rd_lt hlt, cb_not, if_true]
   rw [if_pos (by omega), ck_pos (by omega), ck_pos (by omega), ck_in (by omega) (by omega)]
   rfl
 have h := go l.length 0 (by omega)
 rw [show ((0 : Nat) : Int) = 0 from rfl] at h
 unfold slices_Equal_string_string.f
 simp only [cb_not, cb_dec, if_true, h, ob_s, caseS_r]
section
variable {g : List Nd}
end
end Go.Proofs.YtafalbofjmfbnaaDoor
set_option linter.unusedVariables false
namespace Go.Proofs.YtafalbofjmfbnaaDoor
open Go Go.Lib Go.Proofs.YtafalbofjmfbnaaDoor.Eng
theorem mem_compactUpTo {α : Type} [Inhabited α] [DecidableEq α] (d : Array α) (x : α) : ∀ m : Nat, x ∈ Lib.compactUpTo d m ↔ ∃ j, j < m ∧ d[j]! = x
 | 0 => by simp [Lib.compactUpTo]
 | m + 1 => by
  rw [Lib.compactUpTo_succ, List.mem_append, mem_compactUpTo d x m]
  cases hk : Lib.keeps d m with
  | true =>
   simp only [if_true, List.mem_singleton]
   constructor
   ·rintro (⟨j, h1, h2⟩ | h)
    ·exact ⟨j, by omega, h2⟩
    ·exact ⟨m, by omega, h.symm⟩
   ·rintro ⟨j, h1, h2⟩
    rcases Nat.lt_or_ge j m with h | h
    ·exact .inl ⟨j, h, h2⟩
    ·obtain rfl : j = m := by omega
     exact .inr h2.symm
  | false =>
   simp only [Bool.false_eq_true, if_false, List.not_mem_nil, or_false]
   have hk' := of_decide_eq_false (show decide (m = 0 ∨ d[m]! ≠ d[m - 1]!) = false from hk)
   have h0 : m ≠ 0 := fun e => hk' (.inl e)
   have h1 : d[m]! = d[m - 1]! := Classical.byContradiction fun e => hk' (.inr e)
   constructor
   ·rintro ⟨j, h2, h3⟩; exact ⟨j, by omega, h3⟩
   ·rintro ⟨j, h2, h3⟩
    rcases Nat.lt_or_ge j m with h | h
    ·exact ⟨j, h, h3⟩
    ·obtain rfl : j = m := by omega
     exact ⟨j - 1, by omega, by rw [← h1]; exact h3⟩
theorem mem_compact {α : Type} [Inhabited α] [DecidableEq α] (l : List α) (x : α) : x ∈ Lib.compact l ↔ x ∈ l := by
 unfold Lib.compact
 rw [mem_compactUpTo]
 constructor
 ·rintro ⟨j, h1, h2⟩
  rw [← h2, getElem!_pos _ j (by simpa using h1)]
  simp
 ·intro h
  obtain ⟨j, h1, h2⟩ := List.getElem_of_mem h
  exact ⟨j, h1, by rw [getElem!_pos _ j (by simpa using h1)]; simpa using h2⟩
theorem mem_susp (xs : List ByteArray) (x : ByteArray) : x ∈ compB (sortB xs) ↔ x ∈ xs := by
 have e : (sortB xs).map toL = (xs.map toL).mergeSort fun x y => decide (x ≤ y) := by
  unfold sortB
  rw [List.map_map]
  exact (List.map_congr_left fun l _ => toL_ofL l).trans (List.map_id _)
 unfold compB
 rw [List.mem_map]
 constructor
 ·rintro ⟨l, h1, rfl⟩
  rw [mem_compact, e, List.mem_mergeSort, List.mem_map] at h1
  obtain ⟨b, hb, rfl⟩ := h1
  rw [ofL_toL]; exact hb
 ·intro h
  exact ⟨toL x, by rw [mem_compact, e, List.mem_mergeSort]; exact List.mem_map_of_mem h, ofL_toL x⟩
theorem mgetA_set {α : Type} (x y : ByteArray) (v : α) : ∀ es : List (ByteArray × α), mgetA x (msetA y v es) = if x = y then some v else mgetA x es
 | [] => by
  unfold msetA mgetA
  by_cases h : x = y
  ·rw [if_pos h, decide_eq_true h]
  ·rw [if_neg h, decide_eq_false h]; rfl
 | p :: r => by
  have ih := mgetA_set x y v r
  unfold msetA
  by_cases hp : y = p.1
  ·rw [decide_eq_true hp]
   show mgetA x ((y, v) :: r) = _
   by_cases h : x = y
   ·rw [if_pos h]; unfold mgetA; rw [decide_eq_true h]
   ·rw [if_neg h]
    have h2 : ¬ x = p.1 := fun e => h (e.trans hp.symm)
    unfold mgetA
    rw [decide_eq_false h, decide_eq_false h2]
  ·rw [decide_eq_false hp]
   cases klt y p.1 with
   | true =>
    show mgetA x ((y, v) :: p :: r) = _
    by_cases h : x = y
    ·rw [if_pos h]; unfold mgetA; rw [decide_eq_true h]
    ·rw [if_neg h]
     show mgetA x ((y, v) :: p :: r) = mgetA x (p :: r)
     conv => lhs; unfold mgetA
     rw [decide_eq_false h]
   | false =>
    show mgetA x (p :: msetA y v r) = _
    by_cases h2 : x = p.1
    ·have h : ¬ x = y := fun e => hp (e.symm.trans h2)
     rw [if_neg h]
     unfold mgetA
     rw [decide_eq_true h2]
    ·have e1 : mgetA x (p :: msetA y v r) = mgetA x (msetA y v r) := by
      conv => lhs; unfold mgetA
      rw [decide_eq_false h2]
     have e2 : mgetA x (p :: r) = mgetA x r := by
      conv => lhs; unfold mgetA
      rw [decide_eq_false h2]
     rw [e1, e2, ih]
end Go.Proofs.YtafalbofjmfbnaaDoor
set_option linter.unusedVariables false
set_option linter.unusedSimpArgs false
namespace Go.Proofs.YtafalbofjmfbnaaDoor
open Go Go.Proofs.YtafalbofjmfbnaaDoor.Eng
theorem getD_arr {d : List (List UInt8)} {j : Nat} (h : j < d.length) : d.toArray[j]! = d[j] := by
 rw [getElem!_pos _ j (by simpa using h)]; simp
theorem compact_sorted {d : List (List UInt8)} (hd : d.Pairwise (fun x y => x ≤ y)) : ∀ m : Nat, m ≤ d.length → (Lib.compactUpTo d.toArray m).Pairwise (fun x y => x < y) ∧ ∀ j, m = j + 1 → ∀ x ∈ Lib.compactUpTo d.toArray m, x ≤ d.toArray[j]!
 | 0, _ => ⟨by simp [Lib.compactUpTo], fun j h => by cases h⟩
 | m + 1, hm => by
  obtain ⟨h1, h2⟩ := compact_sorted hd m (by omega)
  rw [Lib.compactUpTo_succ]
  have hself : ∀ x : List UInt8, x ≤ x := fun x => List.le_refl x
  cases hk : Lib.keeps d.toArray m with
  | true =>
   rw [if_pos rfl]
   have hk' : m = 0 ∨ d.toArray[m]! ≠ d.toArray[m - 1]! := of_decide_eq_true hk
   refine ⟨List.pairwise_append.2 ⟨h1, List.pairwise_singleton _ _, fun x hx y hy => ?_⟩, fun j hj x hx => ?_⟩
   ·have hy' : y = d.toArray[m]! := by simpa using hy
    rw [hy']
    cases m with
    | zero => simp [Lib.compactUpTo] at hx
    | succ m =>
     have h3 := h2 m rfl x hx
     have h4 : d.toArray[m + 1]! ≠ d.toArray[m]! := by
      rcases hk' with h | h
      ·omega
      ·exact h
     have h5 : d.toArray[m]! ≤ d.toArray[m + 1]! := by
      rw [getD_arr (by omega), getD_arr (by omega)]
      exact List.pairwise_iff_getElem.1 hd m (m + 1) (by omega) (by omega) (by omega)
     have h6 : x ≤ d.toArray[m + 1]! := List.le_trans h3 h5
     refine Classical.byContradiction fun hn => h4 ?_
     exact List.le_antisymm (List.le_trans (List.not_lt.1 hn) h3) h5
   ·have hjm : j = m := by omega
    subst hjm
    rcases List.mem_append.1 hx with hx | hx
    ·cases j with
     | zero => simp [Lib.compactUpTo] at hx
     | succ m =>
      have h5 : d.toArray[m]! ≤ d.toArray[m + 1]! := by
       rw [getD_arr (by omega), getD_arr (by omega)]
       exact List.pairwise_iff_getElem.1 hd m (m + 1) (by omega) (by omega) (by omega)
      exact List.le_trans (h2 m rfl x hx) h5
    ·have : x = d.toArray[j]! := by simpa using hx
     rw [this]; exact hself _
  | false =>
   rw [if_neg (by simp), List.append_nil]
   have hk' : ¬ (m = 0 ∨ d.toArray[m]! ≠ d.toArray[m - 1]!) := of_decide_eq_false hk
   refine ⟨h1, fun j hj x hx => ?_⟩
   have hjm : j = m := by omega
   subst hjm
   cases j with
   | zero => exact absurd (.inl rfl) hk'
   | succ m =>
    have h4 : d.toArray[m + 1]! = d.toArray[m]! := Classical.byContradiction fun h => hk' (.inr h)
    rw [h4]
    exact h2 m rfl x hx
theorem susp_sorted (xs : List ByteArray) : (compB (sortB xs)).Pairwise fun x y => klt x y = true := by
 have e : (sortB xs).map toL = (xs.map toL).mergeSort fun x y => decide (x ≤ y) := by
  unfold sortB
  rw [List.map_map]
  exact (List.map_congr_left fun l _ => toL_ofL l).trans (List.map_id _)
 have hs : ((xs.map toL).mergeSort fun x y => decide (x ≤ y)).Pairwise (fun x y => x ≤ y) := by
  have := List.pairwise_mergeSort (le := fun x y : List UInt8 => decide (x ≤ y)) (fun a b c h1 h2 => decide_eq_true (List.le_trans (of_decide_eq_true h1) (of_decide_eq_true h2))) (fun a b => by
   rcases List.le_total a b with h | h
   ·simp [h]
   ·simp [h]) (xs.map toL)
  exact this.imp fun {a b} h => of_decide_eq_true h
 unfold compB
 rw [List.pairwise_map, e]
 have h1 := (compact_sorted hs _ (Nat.le_refl _)).1
 refine List.Pairwise.imp (fun {a b} hab => ?_) h1
 unfold klt
 refine decide_eq_true ?_
 show toL (ofL a) < toL (ofL b)
 rw [toL_ofL, toL_ofL]; exact hab
theorem lt_of_cmp : ∀ a b : List UInt8, Lib.compareBytes a b < 0 → a < b
 | [], [], h => by simp [Lib.compareBytes] at h
 | [], _ :: _, _ => List.nil_lt_cons ..
 | _ :: _, [], h => by simp [Lib.compareBytes] at h
 | x :: a, y :: b, h => by
  unfold Lib.compareBytes at h
  by_cases h1 : x < y
  ·exact List.cons_lt_cons_iff.2 (.inl h1)
  ·rw [if_neg h1] at h
   by_cases h2 : y < x
   ·rw [if_pos h2] at h; omega
   ·rw [if_neg h2] at h
    have h3 : x = y := UInt8.le_antisymm (UInt8.not_lt.1 h2) (UInt8.not_lt.1 h1)
    exact List.cons_lt_cons_iff.2 (.inr ⟨h3, lt_of_cmp a b h⟩)
theorem klt_cmp {a b : ByteArray} (h : cmpS a b < 0) : klt a b = true := decide_eq_true (lt_of_cmp _ _ h)
abbrev MB : Type := List (ByteArray × Bool)
def memB (X : List ByteArray) (x : ByteArray) : Bool := X.any fun y => decide (x = y)
theorem memB_iff {X : List ByteArray} {x : ByteArray} : memB X x = true ↔ x ∈ X := by
 unfold memB
 rw [List.any_eq_true]
 constructor
 ·rintro ⟨y, hy, h⟩
  rw [of_decide_eq_true h]; exact hy
 ·exact fun h => ⟨x, h, decide_eq_true rfl⟩
def hasM (l : List ByteArray) (acc : MB) : MB := l.foldl (fun a p => mset p true a) acc
theorem hasM_get (x : ByteArray) : ∀ (l : List ByteArray) (acc : MB), Option.getD (mget x (hasM l acc)) false = (memB l x || Option.getD (mget x acc) false)
 | [], acc => rfl
 | p :: r, acc => by
  show Option.getD (mget x (hasM r (mset p true acc))) false = _
  rw [hasM_get x r, show mget x (mset p true acc) = if x = p then some true else mgetA x acc from mgetA_set x p true acc]
  have e : memB (p :: r) x = (decide (x = p) || memB r x) := rfl
  rw [e]
  by_cases h : x = p
  ·rw [if_pos h, decide_eq_true h]
   cases memB r x <;> rfl
  ·rw [if_neg h, decide_eq_false h]
   rfl
theorem hasLoop {l : List ByteArray} (hl : l.length ≤ 1000) : ∀ (n k : Nat) (acc : MB), l.length - k = n →
  ((∃ p ∈ l.drop k, isPathB p = false) ∧ graph_Affected.l0 l (l.length : Int) (k : Int) acc = some (.inl ([], 3))) ∨
  ((∀ p ∈ l.drop k, isPathB p = true) ∧ graph_Affected.l0 l (l.length : Int) (k : Int) acc = some (.inr (hasM (l.drop k) acc))) := by
 intro n
 induction n with
 | zero =>
  intro k acc hk
  right
  rw [List.drop_eq_nil_of_le (by omega)]
  refine ⟨fun p hp => (by cases hp), loopX_done ?_⟩
  simp only [graph_Affected.s0, cb_dec]
  rw [if_neg (by omega)]
  rfl
 | succ n ih =>
  intro k acc hk
  have hlt : k < l.length := by omega
  have e : ((k : Int) + 1) = ((k + 1 : Nat) : Int) := by omega
  rw [List.drop_eq_getElem_cons hlt]
  cases hp : isPathB l[k] with
  | false =>
   refine .inl ⟨⟨l[k], List.mem_cons_self .., hp⟩, loopX_done ?_⟩
   simp only [graph_Affected.s0]
   rw [decide_eq_true (by omega), cb_t, ck_pos ⟨by omega, by omega⟩, rd_lt hlt]
   simp only [isPath_eq, hp, ob_s, Bool.not_false, cb_t]
  | true =>
   have hs : graph_Affected.s0 l (l.length : Int) (k : Int) acc = some (.inl (((k + 1 : Nat) : Int), mset l[k] true acc)) := by
    simp only [graph_Affected.s0]
    rw [decide_eq_true (by omega), cb_t, ck_pos ⟨by omega, by omega⟩, rd_lt hlt]
    simp only [isPath_eq, hp, ob_s, Bool.not_true, cb_f]
    rw [ck_in (by omega) (by omega), e]
   rcases ih (k + 1) (mset l[k] true acc) (by omega) with ⟨⟨p, h1, h2⟩, h3⟩ | ⟨h1, h3⟩
   ·exact .inl ⟨⟨p, List.mem_cons_of_mem _ h1, h2⟩, (loopX_next hs).trans h3⟩
   ·refine .inr ⟨fun p h => ?_, (loopX_next hs).trans h3⟩
    rcases List.mem_cons.1 h with rfl | h
    ·exact hp
    ·exact h1 p h
def anyM (us : List ByteArray) (m : MB) : Bool := us.any fun u => Option.getD (mget u m) false
theorem idxLoop {us : List ByteArray} (hu : us.length ≤ 1000) (m : MB) : ∀ (n k : Nat), us.length - k = n →
  ∃ r, slices_IndexFunc_string_string_f74.l0 us m (us.length : Int) (k : Int) = some r ∧ ((r = .inr () ∧ anyM (us.drop k) m = false) ∨ ∃ j : Nat, r = .inl (j : Int) ∧ anyM (us.drop k) m = true) := by
 intro n
 induction n with
 | zero =>
  intro k hk
  refine ⟨.inr (), loopX_done ?_, .inl ⟨rfl, ?_⟩⟩
  ·simp only [slices_IndexFunc_string_string_f74.s0, cb_dec]
   rw [if_neg (by omega)]
  ·rw [List.drop_eq_nil_of_le (by omega)]; rfl
 | succ n ih =>
  intro k hk
  have hlt : k < us.length := by omega
  have e : ((k : Int) + 1) = ((k + 1 : Nat) : Int) := by omega
  obtain ⟨r, h1, h2⟩ := ih (k + 1) (by omega)
  rw [List.drop_eq_getElem_cons hlt]
  have e1 : graph_Affected_1.f us[k] m = some (Option.getD (mget us[k] m) false) := rfl
  have e2 : anyM (us[k] :: us.drop (k + 1)) m = (Option.getD (mget us[k] m) false || anyM (us.drop (k + 1)) m) := rfl
  rw [e2]
  cases hb : Option.getD (mget us[k] m) false with
  | true =>
   refine ⟨.inl (k : Int), loopX_done ?_, .inr ⟨k, rfl, rfl⟩⟩
   simp only [slices_IndexFunc_string_string_f74.s0]
   rw [decide_eq_true (by omega), cb_t, ck_pos ⟨by omega, by omega⟩, rd_lt hlt]
   simp only [e1, hb, ob_s, cb_t]
  | false =>
   refine ⟨r, (loopX_next ?_).trans h1, ?_⟩
   ·simp only [slices_IndexFunc_string_string_f74.s0]
    rw [decide_eq_true (by omega), cb_t, ck_pos ⟨by omega, by omega⟩, rd_lt hlt]
    simp only [e1, hb, ob_s, cb_f]
    rw [ck_in (by omega) (by omega), e]
   ·simpa using h2
theorem contF {us : List ByteArray} (hu : us.length ≤ 1000) (m : MB) : slices_ContainsFunc_string_string_f74.f us m = some (anyM us m) := by
 obtain ⟨r, h1, h2⟩ := idxLoop hu m _ 0 rfl
 rw [show ((0 : Nat) : Int) = 0 from rfl] at h1
 rw [List.drop_zero] at h2
 unfold slices_ContainsFunc_string_string_f74.f slices_IndexFunc_string_string_f74.f
 simp only [h1, ob_s]
 rcases h2 with ⟨rfl, h3⟩ | ⟨j, rfl, h3⟩
 ·rw [h3]; rfl
 ·rw [h3]
  show some (decide ((0 : Int) ≤ (j : Int))) = _
  rw [decide_eq_true (by omega)]
section
variable {g : List Nd}
def Sf (g : List Nd) (m : MB) (n : Nat) : List Nat := (List.range n).filter fun i => anyM (g.getD i ND0).2.2.2.1 m
theorem Sf_succ (g : List Nd) (m : MB) (n : Nat) : Sf g m (n + 1) = Sf g m n ++ (if anyM (g.getD n ND0).2.2.2.1 m then [n] else []) := by
 unfold Sf
 rw [List.range_succ, List.filter_append]
 congr 1
 cases h : anyM (g.getD n ND0).2.2.2.1 m with
 | true => simp only [List.filter_cons, h]; rfl
 | false => simp only [List.filter_cons, h]; rfl
theorem Sf_len (g : List Nd) (m : MB) (n : Nat) : (Sf g m n).length ≤ n := by
 unfold Sf
 exact Nat.le_trans (List.length_filter_le _ _) (by simp)
theorem mem_Sf {m : MB} {n k : Nat} : k ∈ Sf g m n ↔ k < n ∧ anyM (g.getD k ND0).2.2.2.1 m = true := by
 unfold Sf
 simp [List.mem_filter, List.mem_range]
theorem fromLoop (hl : g.length ≤ 1000) (hf : ∀ n ∈ g, n.2.2.2.1.length ≤ 1000) (m : MB) : ∀ (n k : Nat), g.length - k = n → k ≤ g.length →
  graph_Affected.l1 g (g.length : Int) (k : Int) m (ints (Sf g m k)) = some (m, ints (Sf g m g.length)) := by
 intro n
 induction n with
 | zero =>
  intro k hk hkl
  have e : k = g.length := by omega
  subst e
  refine loopX_done ?_
  simp only [graph_Affected.s1, cb_dec]
  rw [if_neg (by omega)]
 | succ n ih =>
  intro k hk hkl
  have hlt : k < g.length := by omega
  have e : ((k : Int) + 1) = ((k + 1 : Nat) : Int) := by omega
  have hS := Sf_len g m k
  refine (loopX_next ?_).trans (ih (k + 1) (by omega) (by omega))
  have hg : g.getD k ND0 = g[k] := by simp [List.getD, hlt]
  rw [Sf_succ, hg]
  simp only [graph_Affected.s1]
  rw [decide_eq_true (by omega), cb_t, ck_pos ⟨by omega, by omega⟩, rd_lt hlt]
  simp only [contF (hf _ (List.getElem_mem hlt)) m, ob_s]
  cases hb : anyM g[k].2.2.2.1 m with
  | true =>
   rw [cb_t, ck_pos (by simp only [List.length_map, List.length_cons, List.length_nil]; omega), ck_in (by omega) (by omega), e]
   simp [ints]
  | false =>
   rw [cb_f, ck_in (by omega) (by omega), e]
   simp
structure TreeOk (g : List Nd) : Prop where
 right : Right g
 files : ∀ n ∈ g, n.2.2.2.1.length ≤ 1000
 tree : ∃ L, graph_tree.f g = some (net g, (L, 0))
theorem tree_cases (hs : ∀ n ∈ g, szNd n) : (∃ f : Int, f ≠ 0 ∧ graph_tree.f g = some (none, ([], f))) ∨ TreeOk g := by
 rcases tree_eq hs with h | ⟨h, L, _, _, h2⟩
 ·exact .inl h
 ·right
  refine ⟨h, fun n hn => ?_, ints L, h2⟩
  rcases open_eq' hs with ⟨⟨f, h3, h4⟩, _⟩ | ⟨_, h3⟩
  ·exfalso
   unfold graph_tree.f at h2
   rw [h4] at h2
   simp only [ob_s, cb_not, cb_dec, if_neg h3] at h2
   have := congrArg (fun x => Option.map (fun y => y.2.2) x) h2
   exact h3 (by simpa using this)
  ·obtain ⟨f, h4, h5⟩ := checkNode_some (hs n hn)
   have h6 := h3 n hn
   rw [h4] at h6
   exact (h5 (Option.some.inj h6)).2.2.2.2
theorem Affected_ok (h : TreeOk g) {l : List ByteArray} (hl : l.length ≤ 1000) (hp : ∀ p ∈ l, isPathB p = true) :
  ∃ d : List Int, Far g.length (Dir g true) (· ∈ Sf g (hasM l []) g.length) (fun k => d.getD k 0) ∧ graph_Affected.f g l = some ((Wi g.length d (-1)).map (labN g), 0) := by
 obtain ⟨L, ht⟩ := h.tree
 have hgl := h.right.len
 have h1 : graph_Affected.l0 l (l.length : Int) 0 [] = some (.inr (hasM l [])) := by
  rcases hasLoop hl _ 0 [] rfl with ⟨⟨p, h1, h2⟩, _⟩ | ⟨_, h2⟩
  ·rw [List.drop_zero] at h1
   rw [hp p h1] at h2; cases h2
  ·rw [List.drop_zero] at h2; exact h2
 have h2 : graph_Affected.l1 g (g.length : Int) 0 (hasM l []) [] = some (hasM l [], ints (Sf g (hasM l []) g.length)) := fromLoop hgl h.files (hasM l []) _ 0 rfl (Nat.zero_le _)
 have hS : ∀ s ∈ Sf g (hasM l []) g.length, s < g.length := fun s hs => (mem_Sf.1 hs).1
 have hSl := Sf_len g (hasM l []) g.length
 obtain ⟨d, d1, d2, d3, _⟩ := within_eq h.right true hS (by omega) (-1)
 refine ⟨d, d1, ?_⟩
 have d2' : graph_within.f (usersA g) (ints (Sf g (hasM l []) g.length)) (-1) = some (ints (Wi g.length d (-1))) := d2
 have hW := Wi_len g.length d (-1)
 have h3 := labels_eq g (depsA g) (usersA g) (L := Wi g.length d (-1)) (by omega) hgl (fun x hx => (mem_Wi.1 hx).1)
 unfold graph_Affected.f
 rw [ht]
 simp only [ob_s, decide_true, Bool.not_true, cb_f]
 rw [decide_eq_false (by omega), cb_f]
 simp only [h1, h2, ob_s, caseS_r, Option.isSome_some, Option.getD_some, ck_tr, d2', h3]
theorem Affected_cases (hs : ∀ n ∈ g, szNd n) (l : List ByteArray) : (∃ f : Int, f ≠ 0 ∧ graph_Affected.f g l = some ([], f)) ∨ (TreeOk g ∧ l.length ≤ 1000 ∧ ∀ p ∈ l, isPathB p = true) := by
 rcases tree_cases hs with ⟨f, h1, h2⟩ | h
 ·left
  refine ⟨f, h1, ?_⟩
  unfold graph_Affected.f
  rw [h2]
  simp only [ob_s, decide_eq_false h1]
  rfl
 ·obtain ⟨L, ht⟩ := h.tree
  by_cases hl : l.length ≤ 1000
  ·rcases hasLoop hl _ 0 [] rfl with ⟨_, h2⟩ | ⟨h1, _⟩
   ·left
    refine ⟨3, by decide, ?_⟩
    have h2 : graph_Affected.l0 l (l.length : Int) 0 [] = some (.inl ([], 3)) := h2
    unfold graph_Affected.f
    rw [ht]
    simp only [ob_s, decide_true, Bool.not_true, cb_f]
    rw [decide_eq_false (by omega), cb_f]
    simp only [h2, ob_s]
    rfl
   ·rw [List.drop_zero] at h1
    exact .inr ⟨h, hl, h1⟩
  ·left
   refine ⟨2, by decide, ?_⟩
   unfold graph_Affected.f
   rw [ht]
   simp only [ob_s, decide_true, Bool.not_true, cb_f]
   rw [decide_eq_true (by omega), cb_t]
theorem far_iff (h : Right g) {S : List Nat} {d : List Int} (f : Far g.length (Dir g true) (· ∈ S) (fun k => d.getD k 0)) {b : Nat} (hb : b < g.length) : 0 ≤ d.getD b 0 ↔ ∃ a ∈ S, a < g.length ∧ ∃ m, Go.Proofs.YtafalbofjmfbnaaDoor.Eng.Way (Dir g true) a b m := by
 constructor
 ·intro h0
  obtain ⟨m, hm⟩ := Int.eq_ofNat_of_zero_le h0
  obtain ⟨a, h1, h2, h3⟩ := f.ex m b hb hm
  exact ⟨a, h2, h1, m, h3⟩
 ·rintro ⟨a, h1, h2, m, h3⟩
  exact (f.way (fun k y e => dir_lt h true e) h2 h1 h3).1
def Hit (g : List Nd) (p : ByteArray) (k : Nat) : Prop := ∃ a, a < g.length ∧ p ∈ (g.getD a ND0).2.2.2.1 ∧ ∃ m, Go.Proofs.YtafalbofjmfbnaaDoor.Eng.Way (Dir g true) a k m
theorem any_iff {us l : List ByteArray} : anyM us (hasM l []) = true ↔ ∃ p ∈ l, p ∈ us := by
 unfold anyM
 rw [List.any_eq_true]
 constructor
 ·rintro ⟨u, hu, h⟩
  rw [hasM_get] at h
  have h : (memB l u || false) = true := h
  rw [Bool.or_false] at h
  exact ⟨u, memB_iff.1 h, hu⟩
 ·rintro ⟨u, hu, h⟩
  refine ⟨u, h, ?_⟩
  rw [hasM_get, memB_iff.2 hu]; rfl
theorem mem_aff (h : Right g) {l : List ByteArray} {d : List Int} (f : Far g.length (Dir g true) (· ∈ Sf g (hasM l []) g.length) (fun k => d.getD k 0)) (x : ByteArray) :
  x ∈ (Wi g.length d (-1)).map (labN g) ↔ ∃ k, k < g.length ∧ x = labN g k ∧ ∃ p ∈ l, Hit g p k := by
 rw [List.mem_map]
 constructor
 ·rintro ⟨k, hk, rfl⟩
  obtain ⟨h1, h2, _⟩ := mem_Wi.1 hk
  obtain ⟨a, h3, h4, h5⟩ := (far_iff h f h1).1 h2
  obtain ⟨p, h6, h7⟩ := any_iff.1 (mem_Sf.1 h3).2
  exact ⟨k, h1, rfl, p, h6, a, h4, h7, h5⟩
 ·rintro ⟨k, h1, rfl, p, hp, a, h4, h7, h5⟩
  refine ⟨k, mem_Wi.2 ⟨h1, (far_iff h f h1).2 ⟨a, mem_Sf.2 ⟨h4, any_iff.2 ⟨p, hp, h7⟩⟩, h4, h5⟩, .inl (by decide)⟩, rfl⟩
theorem aff_sorted (h : Right g) (d : List Int) : ((Wi g.length d (-1)).map (labN g)).Pairwise fun x y => klt x y = true := by
 rw [List.pairwise_map]
 have h1 : (Wi g.length d (-1)).Pairwise (fun a b => a < b) := (List.pairwise_lt_range).filter _
 refine List.Pairwise.imp_of_mem (fun {a b} ha hb hab => ?_) h1
 have ha' := (mem_Wi.1 ha).1
 have hb' := (mem_Wi.1 hb).1
 rw [labN_get ha', labN_get hb']
 have h2 := h.lab a b (by unfold labs; simpa using hb') hab
 rw [labs_get ha', labs_get hb'] at h2
 exact klt_cmp h2
theorem sorted_eq {xs ys : List ByteArray} (h1 : xs.Pairwise fun x y => klt x y = true) (h2 : ys.Pairwise fun x y => klt x y = true) (h : ∀ x, x ∈ xs ↔ x ∈ ys) : xs = ys := by
 have nd : ∀ {l : List ByteArray}, l.Pairwise (fun x y => klt x y = true) → l.Nodup := fun h => h.imp fun {p q} hpq e => by subst e; rw [klt_irr] at hpq; cases hpq
 refine List.Perm.eq_of_pairwise (fun p q _ _ h1 h2 => ?_) h1 h2 ((List.perm_ext_iff_of_nodup (nd h1) (nd h2)).2 h)
 have := klt_trans h1 h2
 rw [klt_irr] at this; cases this
noncomputable def X1 (g : List Nd) (p : ByteArray) : List ByteArray := (Option.getD (graph_Affected.f g [p]) ([], 0)).1
theorem X1_eq (h : TreeOk g) {p : ByteArray} (hp : isPathB p = true) : graph_Affected.f g [p] = some (X1 g p, 0) ∧ (X1 g p).length ≤ 1000 ∧ ∀ x, x ∈ X1 g p ↔ ∃ k, k < g.length ∧ x = labN g k ∧ Hit g p k := by
 obtain ⟨d, h1, h2⟩ := Affected_ok h (l := [p]) (by simp) (fun q hq => by rw [List.mem_singleton.1 hq]; exact hp)
 have e : X1 g p = (Wi g.length d (-1)).map (labN g) := by unfold X1; rw [h2]; rfl
 refine ⟨by rw [e]; exact h2, ?_, fun x => ?_⟩
 ·rw [e, List.length_map]
  have := Wi_len g.length d (-1)
  have := h.right.len
  omega
 ·rw [e, mem_aff h.right h1]
  constructor
  ·rintro ⟨k, a, b, q, hq, c⟩
   rw [List.mem_singleton.1 hq] at c
   exact ⟨k, a, b, c⟩
  ·rintro ⟨k, a, b, c⟩
   exact ⟨k, a, b, p, List.mem_singleton.2 rfl, c⟩
theorem allLoop (h : TreeOk g) {l : List ByteArray} (hl : l.length ≤ 1000) (hp : ∀ p ∈ l, isPathB p = true) : ∀ (n k : Nat) (o : List ByteArray), l.length - k = n → k ≤ l.length → o.length ≤ k * 1000 →
  law4_GraphAffectedSpreads.l0 g l (k : Int) o = some (.inr (o ++ (l.drop k).flatMap (X1 g))) := by
 intro n
 induction n with
 | zero =>
  intro k o hk hkl ho
  refine loopX_done ?_
  simp only [law4_GraphAffectedSpreads.s0, cb_dec]
  rw [if_neg (by omega), List.drop_eq_nil_of_le (by omega)]
  simp
 | succ n ih =>
  intro k o hk hkl ho
  have hlt : k < l.length := by omega
  have e : ((k : Int) + 1) = ((k + 1 : Nat) : Int) := by omega
  obtain ⟨h1, h2, _⟩ := X1_eq h (hp _ (List.getElem_mem hlt))
  rw [List.drop_eq_getElem_cons hlt, List.flatMap_cons, ← List.append_assoc]
  refine (loopX_next ?_).trans (ih (k + 1) _ (by omega) (by omega) (by rw [List.length_append]; omega))
  have e1 : List.drop (Int.toNat (k : Int)) (List.take (Int.toNat ((k + 1 : Nat) : Int)) l) = [l[k]] := by
   rw [Int.toNat_natCast, Int.toNat_natCast, List.take_add_one, List.drop_append, List.drop_eq_nil_of_le (by rw [List.length_take]; exact Nat.min_le_left ..)]
   simp [List.getElem?_eq_getElem hlt, Nat.min_eq_left (Nat.le_of_lt hlt)]
  simp only [law4_GraphAffectedSpreads.s0]
  rw [decide_eq_true (by omega), cb_t, e, ck_in (by omega) (by omega), ck_pos ⟨by omega, by omega, by omega⟩, e1, h1, ob_s]
  simp only [decide_true, Bool.not_true, cb_f]
  rw [ck_pos (by omega), ck_in (by omega) (by omega)]
theorem flat_len (h : TreeOk g) : ∀ (l : List ByteArray), (∀ p ∈ l, isPathB p = true) → (l.flatMap (X1 g)).length ≤ l.length * 1000
 | [], _ => by simp
 | p :: r, hp => by
  have h1 := flat_len h r fun q hq => hp q (List.mem_cons_of_mem _ hq)
  have h2 := (X1_eq h (hp p (List.mem_cons_self ..))).2.1
  rw [List.flatMap_cons, List.length_append, List.length_cons]
  omega
theorem run52 {xs : List ByteArray} (h : xs.length ≤ 1000000000) : srt_52_1000000_run xs = some (sortB xs) := ck_pos h
theorem run53 {xs : List ByteArray} (h : xs.length ≤ 1000000000) : srt_53_1000000_run xs = some (compB xs ++ List.replicate (xs.length - (compB xs).length) (ByteArray.empty)) := ck_pos h
theorem sortB_len (xs : List ByteArray) : (sortB xs).length = xs.length := by simp [sortB]
theorem depLoop (h : Right g) {x : List ByteArray} (hx : x.length ≤ 1000) {i : Nat} (hi : i < g.length) (hin : ∀ s ∈ g[i].2.2.1, s ∈ x → g[i].1 ∈ x) (o : List ByteArray) : ∀ (n k : Nat), g[i].2.2.1.length - k = n →
  law4_GraphAffectedSpreads.l2 g x (i : Int) (k : Int) o = some (.inr o) := by
 have hd := (h.nd _ (List.getElem_mem hi)).1
 have c1 : ∀ {β : Type} (a : Option β), ck (0 ≤ (i : Int) ∧ (i : Int) < ((List.length g : Nat) : Int)) a = a := fun a => ck_pos ⟨by omega, by omega⟩
 intro n
 induction n with
 | zero =>
  intro k hk
  refine loopX_done ?_
  simp only [law4_GraphAffectedSpreads.s2, c1, rd_lt hi, cb_dec]
  rw [if_neg (by omega)]
 | succ n ih =>
  intro k hk
  have hlt : k < g[i].2.2.1.length := by omega
  have e : ((k : Int) + 1) = ((k + 1 : Nat) : Int) := by omega
  refine (loopX_next ?_).trans (ih (k + 1) (by omega))
  simp only [law4_GraphAffectedSpreads.s2, c1, rd_lt hi]
  rw [decide_eq_true (by omega), cb_t, ck_pos ⟨by omega, by omega⟩, rd_lt hlt]
  obtain ⟨b, b1, b2⟩ := contB (l := x) (by omega) g[i].2.2.1[k]
  obtain ⟨b', b3, b4⟩ := contB (l := x) (by omega) g[i].1
  simp only [b1, b3, ob_s]
  cases b with
  | true =>
   have : b' = true := b4.2 (hin _ (List.getElem_mem hlt) (b2.1 rfl))
   rw [this]
   simp only [cb_t, Bool.not_true, cb_f]
   rw [ck_in (by omega) (by omega), e]
  | false =>
   simp only [cb_f]
   rw [ck_in (by omega) (by omega), e]
theorem nodeLoop (h : Right g) {x : List ByteArray} (hx : x.length ≤ 1000) (hin : ∀ i, ∀ hi : i < g.length, ∀ s ∈ g[i].2.2.1, s ∈ x → g[i].1 ∈ x) (o : List ByteArray) : ∀ (n k : Nat), g.length - k = n →
  law4_GraphAffectedSpreads.l1 g x (k : Int) o = some (.inr o) := by
 have hgl := h.len
 intro n
 induction n with
 | zero =>
  intro k hk
  refine loopX_done ?_
  simp only [law4_GraphAffectedSpreads.s1, cb_dec]
  rw [if_neg (by omega)]
 | succ n ih =>
  intro k hk
  have hlt : k < g.length := by omega
  have e : ((k : Int) + 1) = ((k + 1 : Nat) : Int) := by omega
  refine (loopX_next ?_).trans (ih (k + 1) (by omega))
  have h2 : law4_GraphAffectedSpreads.l2 g x (k : Int) 0 o = some (.inr o) := depLoop h hx hlt (hin k hlt) o _ 0 rfl
  simp only [law4_GraphAffectedSpreads.s1]
  rw [decide_eq_true (by omega), cb_t]
  simp only [h2, ob_s, caseS_r]
  rw [ck_in (by omega) (by omega), e]
theorem law_AS (hs : ∀ n ∈ g, szNd n) (l : List ByteArray) : law4_GraphAffectedSpreads.f g l = some true := by
 unfold law4_GraphAffectedSpreads.f
 rcases Affected_cases hs l with ⟨f, h1, h2⟩ | ⟨h, hl, hp⟩
 ·rw [h2]
  simp only [ob_s, decide_eq_false h1, Bool.not_false, cb_t, awake4]
  rfl
 ·obtain ⟨d, h1, h2⟩ := Affected_ok h hl hp
  have hW := Wi_len g.length d (-1)
  have hgl := h.right.len
  have hxl : ((Wi g.length d (-1)).map (labN g)).length ≤ 1000 := by rw [List.length_map]; omega
  have hA : law4_GraphAffectedSpreads.l0 g l 0 [] = some (.inr (l.flatMap (X1 g))) := by
   have := allLoop h hl hp _ 0 [] rfl (Nat.zero_le _) (by simp)
   rw [List.drop_zero, List.nil_append] at this
   exact this
  have hfl := flat_len h l hp
  have r1 := run52 (xs := l.flatMap (X1 g)) (by omega)
  have r2 := run53 (xs := sortB (l.flatMap (X1 g))) (by rw [sortB_len]; omega)
  have hs1 : ∀ {β γ : Type} (x : γ) (a : Option β), ck (Option.isSome (some x) = true) a = a := fun x a => ck_pos rfl
  have r3 : List.take (List.length (compB (sortB (l.flatMap (X1 g))))) (compB (sortB (l.flatMap (X1 g))) ++ List.replicate ((sortB (l.flatMap (X1 g))).length - (compB (sortB (l.flatMap (X1 g)))).length) ByteArray.empty) = compB (sortB (l.flatMap (X1 g))) := List.take_left' rfl
  have hE : compB (sortB (l.flatMap (X1 g))) = (Wi g.length d (-1)).map (labN g) := by
   refine sorted_eq (susp_sorted _) (aff_sorted h.right d) fun x => ?_
   rw [mem_susp, mem_aff h.right h1, List.mem_flatMap]
   constructor
   ·rintro ⟨p, hpl, hx⟩
    obtain ⟨k, a, b, c⟩ := ((X1_eq h (hp p hpl)).2.2 x).1 hx
    exact ⟨k, a, b, p, hpl, c⟩
   ·rintro ⟨k, a, b, p, hpl, c⟩
    exact ⟨p, hpl, ((X1_eq h (hp p hpl)).2.2 x).2 ⟨k, a, b, c⟩⟩
  have hN := nodeLoop h.right hxl (fun i hi s hs hsx => by
   obtain ⟨k, hk, e, p, hpl, a, ha, hf, m, hw⟩ := (mem_aff h.right h1 s).1 hsx
   refine (mem_aff h.right h1 _).2 ⟨i, hi, (labN_get hi).symm, p, hpl, a, ha, hf, m + 1, .snoc hw ?_⟩
   show Ed g i k
   refine ⟨hi, (D_label h.right hi hk).2 ?_⟩
   rw [← labN_get hk, ← e]; exact hs) ((Wi g.length d (-1)).map (labN g)) _ 0 rfl
  rw [show ((0 : Nat) : Int) = 0 from rfl] at hN
  rw [hE] at r3
  rw [h2]
  simp only [ob_s, decide_true, Bool.not_true, cb_f, hA, caseS_r, r1, hs1, Option.getD_some, r2, r3, hE, equalS (l := (Wi g.length d (-1)).map (labN g)) (by omega), hN, awake4]
end
theorem law_AS' (x : List Nd × List ByteArray) (hx : InA T 6 [22,23] [.slice (.pair .str (.pair .str (.pair (.slice .str) (.pair (.slice .str) (.pair (.slice .str) (.int .i64)))))), .slice .str] x) : law4_GraphAffectedSpreads.f x.1 x.2 = some true := by
 have hr : reachBytes ≤ BIG := by unfold BIG; decide +kernel
 refine law_AS (fun n hn => ?_) x.2
 have h := hx.1.2 n hn
 exact ⟨Nat.le_trans (show n.1.size ≤ reachBytes from h.1) hr, fun x hm => Nat.le_trans (show x.size ≤ reachBytes from h.2.2.1.2 x hm) hr, fun x hm => Nat.le_trans (show x.size ≤ reachBytes from h.2.2.2.1.2 x hm) hr, fun x hm => Nat.le_trans (show x.size ≤ reachBytes from h.2.2.2.2.1.2 x hm) hr⟩
end Go.Proofs.YtafalbofjmfbnaaDoor
