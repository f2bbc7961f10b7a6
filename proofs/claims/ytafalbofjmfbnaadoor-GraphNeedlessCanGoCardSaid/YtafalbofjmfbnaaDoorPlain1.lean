/-
  Plain laws over the printed functions: labels, rising lists, nodes, where a label stands. No condition.
-/
import Derived.Test.YtafalbofjmfbnaaDoorFun
import Derived.Sort.Walk0
set_option linter.unusedVariables false
set_option linter.unusedSimpArgs false
namespace Go.Proofs.YtafalbofjmfbnaaDoor.Eng
inductive Way (E : Nat → Nat → Prop) : Nat → Nat → Nat → Prop
 | nil (a : Nat) : Way E a a 0
 | snoc {a b c m : Nat} (h : Way E a b m) (e : E b c) : Way E a c (m + 1)
theorem Way.trans {E : Nat → Nat → Prop} {a b c m k : Nat} (h : Way E a b m) (h' : Way E b c k) : Way E a c (m + k) := by
 induction h' with
 | nil => exact h
 | snoc _ e ih => exact .snoc ih e
theorem Way.one {E : Nat → Nat → Prop} {a b : Nat} (e : E a b) : Way E a b 1 := .snoc (.nil a) e
theorem Way.cons {E : Nat → Nat → Prop} {a b c m : Nat} (e : E a b) (h : Way E b c m) : Way E a c (m + 1) := by
 have := (Way.one e).trans h
 rwa [Nat.add_comm] at this
theorem Way.flip {E : Nat → Nat → Prop} {a b m : Nat} (h : Way E a b m) : Way (fun x y => E y x) b a m := by
 induction h with
 | nil => exact .nil _
 | snoc _ e ih => exact .cons e ih
theorem Way.mono {E E' : Nat → Nat → Prop} {a b m : Nat} (h : Way E a b m) (hE : ∀ x y, E x y → E' x y) : Way E' a b m := by
 induction h with
 | nil => exact .nil _
 | snoc _ e ih => exact .snoc ih (hE _ _ e)
theorem Way.head {E : Nat → Nat → Prop} {a c m : Nat} (h : Way E a c (m + 1)) : ∃ b, E a b ∧ Way E b c m := by
 generalize hk : m + 1 = k at h
 induction h generalizing m with
 | nil => omega
 | @snoc b c k h e ih =>
  cases m with
  | zero =>
   have : k = 0 := by omega
   subst this
   cases h
   exact ⟨c, e, .nil c⟩
  | succ m =>
   obtain ⟨d, h1, h2⟩ := ih (m := m) (by omega)
   have : k = m + 1 := by omega
   exact ⟨d, h1, .snoc h2 e⟩
structure Far (n : Nat) (E : Nat → Nat → Prop) (S : Nat → Prop) (d : Nat → Int) : Prop where
 low : ∀ k, k < n → d k = -1 ∨ 0 ≤ d k
 src : ∀ k, k < n → (d k = 0 ↔ S k)
 step : ∀ k y, k < n → E k y → 0 ≤ d k → 0 ≤ d y ∧ d y ≤ d k + 1
 back : ∀ y, y < n → 0 < d y → ∃ k, k < n ∧ E k y ∧ d k = d y - 1
section
variable {n : Nat} {E : Nat → Nat → Prop} {S : Nat → Prop} {d d' : Nat → Int}
theorem Far.way (h : Far n E S d) (hE : ∀ k y, E k y → k < n ∧ y < n) {a b m : Nat} (ha : a < n) (hs : S a) (hw : Way E a b m) : 0 ≤ d b ∧ d b ≤ m := by
 induction hw with
 | nil => have := (h.src _ ha).2 hs; omega
 | snoc hw e ih =>
  have := h.step _ _ (hE _ _ e).1 e ih.1
  omega
theorem Far.ex (h : Far n E S d) : ∀ (m b : Nat), b < n → d b = m → ∃ a, a < n ∧ S a ∧ Way E a b m
 | 0, b, hb, hd => ⟨b, hb, (h.src b hb).1 hd, .nil b⟩
 | m + 1, b, hb, hd => by
  obtain ⟨k, hk, he, hdk⟩ := h.back b hb (by omega)
  obtain ⟨a, ha, hs, hw⟩ := Far.ex h m k hk (by omega)
  exact ⟨a, ha, hs, .snoc hw he⟩
theorem Far.get (h : Far n E S d) {b : Nat} (hb : b < n) (h0 : 0 ≤ d b) : ∃ a m, a < n ∧ S a ∧ Way E a b m ∧ d b = m := by
 obtain ⟨a, h1, h2, h3⟩ := h.ex (d b).toNat b hb (by omega)
 exact ⟨a, _, h1, h2, h3, by omega⟩
theorem Far.uniq (h : Far n E S d) (h' : Far n E S d') (hE : ∀ k y, E k y → k < n ∧ y < n) {b : Nat} (hb : b < n) : d b = d' b := by
 have key : ∀ {d d' : Nat → Int}, Far n E S d → Far n E S d' → 0 ≤ d b → 0 ≤ d' b ∧ d' b ≤ d b := fun h h' h0 => by
  obtain ⟨a, m, h1, h2, h3, h4⟩ := h.get hb h0
  have := h'.way hE h1 h2 h3
  omega
 rcases h.low b hb with h1 | h1
 ·rcases h'.low b hb with h2 | h2
  ·omega
  ·have := key h' h h2; omega
 ·have h2 := key h h' h1
  have h3 := key h' h h2.1
  omega
end
theorem sink {T : Nat → Nat → Prop} (htr : ∀ a b c, T a b → T b c → T a c) (hir : ∀ a, ¬ T a a) : ∀ (R : List Nat), R ≠ [] → ∃ x, x ∈ R ∧ ∀ y, y ∈ R → ¬ T x y
 | [], h => absurd rfl h
 | [a], _ => ⟨a, List.mem_singleton.2 rfl, fun y hy => by rw [List.mem_singleton.1 hy]; exact hir a⟩
 | a :: b :: r, _ => by
  obtain ⟨x, hx, hn⟩ := sink htr hir (b :: r) (by simp)
  by_cases hxa : T x a
  ·refine ⟨a, List.mem_cons_self .., fun y hy => ?_⟩
   rcases List.mem_cons.1 hy with e | hy
   ·rw [e]; exact hir a
   ·exact fun h => hn y hy (htr _ _ _ hxa h)
  ·refine ⟨x, List.mem_cons_of_mem _ hx, fun y hy => ?_⟩
   rcases List.mem_cons.1 hy with e | hy
   ·rw [e]; exact hxa
   ·exact hn y hy
theorem loop_of {E : Nat → Nat → Prop} (R : List Nat) (hR : R ≠ []) (h : ∀ x, x ∈ R → ∃ y, y ∈ R ∧ E x y) : ∃ x m, x ∈ R ∧ Way E x x (m + 1) := by
 refine Classical.byContradiction fun hno => ?_
 have key : ∀ (R' : List Nat), R' ≠ [] → (∀ x, x ∈ R' → x ∈ R) → ∃ x, x ∈ R' ∧ ∀ y, y ∈ R' → ¬ ∃ m, Way E x y (m + 1) := by
  intro R'
  induction R' with
  | nil => exact fun h => absurd rfl h
  | cons a r ih =>
   intro _ hsub
   have haa : ¬ ∃ m, Way E a a (m + 1) := fun ⟨m, hm⟩ => hno ⟨a, m, hsub a (List.mem_cons_self ..), hm⟩
   cases r with
   | nil => exact ⟨a, List.mem_cons_self .., fun y hy => by rw [List.mem_singleton.1 hy]; exact haa⟩
   | cons b r =>
    obtain ⟨x, hx, hn⟩ := ih (by simp) (fun x hx => hsub x (List.mem_cons_of_mem _ hx))
    by_cases hxa : ∃ m, Way E x a (m + 1)
    ·refine ⟨a, List.mem_cons_self .., fun y hy => ?_⟩
     rcases List.mem_cons.1 hy with e | hy
     ·rw [e]; exact haa
     ·rintro ⟨m, hm⟩
      obtain ⟨k, hk⟩ := hxa
      exact hn y hy ⟨k + 1 + m, (hk.trans hm)⟩
    ·refine ⟨x, List.mem_cons_of_mem _ hx, fun y hy => ?_⟩
     rcases List.mem_cons.1 hy with e | hy
     ·rw [e]; exact hxa
     ·exact hn y hy
 obtain ⟨x, hx, hn⟩ := key R hR (fun x h => h)
 obtain ⟨y, hy, he⟩ := h x hx
 exact hn y hy ⟨0, Way.one he⟩
end Go.Proofs.YtafalbofjmfbnaaDoor.Eng
set_option linter.unusedVariables false
set_option linter.unusedSimpArgs false
namespace Go.Proofs.YtafalbofjmfbnaaDoor
open Go Go.Proofs.YtafalbofjmfbnaaDoor.Eng
abbrev Nd := ByteArray × (ByteArray × ((List ByteArray) × ((List ByteArray) × ((List ByteArray) × Int))))
def BIG : Nat := 140737488355328
theorem size_list (s : ByteArray) : s.size = s.data.toList.length := by rw [ByteArray.size]; simp
theorem bt_get {s : ByteArray} {k : Nat} (h : k < s.data.toList.length) : bt s (k : Int) = s.data.toList[k] := by
 have h' : k < s.size := by rw [size_list]; exact h
 unfold bt
 simp only [Int.toNat_natCast]
 rw [getElem?_pos s k h', Option.getD_some]
 rfl
theorem byteLoop {s : ByteArray} (hs : s.size ≤ BIG) (p : UInt8 → Bool) (f : Int → Option (Int ⊕ (Bool ⊕ Unit))) (hend : ∀ k : Nat, s.data.toList.length ≤ k → f k = some (.inr (.inr ())))
  (hno : ∀ k : Nat, ∀ h : k < s.data.toList.length, p s.data.toList[k] = false → f k = some (.inr (.inl false))) (hyes : ∀ k : Nat, ∀ h : k < s.data.toList.length, p s.data.toList[k] = true → f k = some (.inl ((k : Int) + 1))) :
  ∀ (n k : Nat), s.data.toList.length - k = n → loopX f (k : Int) = some (if (s.data.toList.drop k).all p then .inr () else .inl false) := by
 intro n
 induction n with
 | zero =>
  intro k hn
  rw [List.drop_eq_nil_of_le (by omega)]
  exact loopX_done (hend k (by omega))
 | succ n ih =>
  intro k hn
  have hlt : k < s.data.toList.length := by omega
  rw [List.drop_eq_getElem_cons hlt, List.all_cons]
  cases hp : p s.data.toList[k] with
  | false => exact loopX_done (hno k hlt hp)
  | true =>
   rw [Bool.true_and]
   exact (loopX_next (hyes k hlt hp)).trans (ih (k + 1) (by omega))
def partC (c : UInt8) : Bool := decide (97 ≤ c.toNat ∧ c.toNat ≤ 122) || decide (65 ≤ c.toNat ∧ c.toNat ≤ 90) || decide (48 ≤ c.toNat ∧ c.toNat ≤ 57) || decide (0 ≤ Lib.indexByte [46, 95, 45, 43] c)
theorem inPart_eq (c : UInt8) : blob_inPart.f c = some (partC c) := by
 have hi : strings_IndexByte.f bs_46_95_45_43 c = some (Lib.indexByte [46, 95, 45, 43] c) := rfl
 unfold blob_inPart.f partC
 simp only [cb_dec, hi, ob_s]
 by_cases h1 : (97 : Int) ≤ ((UInt8.toNat c : Nat) : Int) <;> by_cases h2 : ((UInt8.toNat c : Nat) : Int) ≤ 122 <;> by_cases h3 : (65 : Int) ≤ ((UInt8.toNat c : Nat) : Int) <;> by_cases h4 : ((UInt8.toNat c : Nat) : Int) ≤ 90 <;>
  by_cases h5 : (48 : Int) ≤ ((UInt8.toNat c : Nat) : Int) <;> by_cases h6 : ((UInt8.toNat c : Nat) : Int) ≤ 57 <;> simp only [h1, h2, h3, h4, h5, h6, if_true, if_false] <;> congr 1 <;>
  (have g1 : decide (97 ≤ c.toNat ∧ c.toNat ≤ 122) = decide ((97 : Int) ≤ ((UInt8.toNat c : Nat) : Int) ∧ ((UInt8.toNat c : Nat) : Int) ≤ 122) := decide_eq_decide.2 (by omega)
   have g2 : decide (65 ≤ c.toNat ∧ c.toNat ≤ 90) = decide ((65 : Int) ≤ ((UInt8.toNat c : Nat) : Int) ∧ ((UInt8.toNat c : Nat) : Int) ≤ 90) := decide_eq_decide.2 (by omega)
   have g3 : decide (48 ≤ c.toNat ∧ c.toNat ≤ 57) = decide ((48 : Int) ≤ ((UInt8.toNat c : Nat) : Int) ∧ ((UInt8.toNat c : Nat) : Int) ≤ 57) := decide_eq_decide.2 (by omega)
   rw [g1, g2, g3]; simp [h1, h2, h3, h4, h5, h6])
def isPartB (s : ByteArray) : Bool := s.data.toList.all partC && (!decide (s = bs_) && (!decide (s = bs_46) && !decide (s = bs_46_46)))
theorem isPart_eq {s : ByteArray} (hs : s.size ≤ BIG) : blob_isPart.f s = some (isPartB s) := by
 have hb : BIG = 140737488355328 := rfl
 have hl := size_list s
 have h := byteLoop hs partC (fun x => blob_isPart.s0 s (s.size : Int) x) (fun k hk => by
  simp only [blob_isPart.s0, cb_dec]; rw [if_neg (by omega)]) (fun k hk hp => by
  simp only [blob_isPart.s0, cb_dec, bt_get hk, inPart_eq, hp, ob_s]; rw [if_pos (by omega), ck_pos (by omega)]; rfl) (fun k hk hp => by
  simp only [blob_isPart.s0, cb_dec, bt_get hk, inPart_eq, hp, ob_s]; rw [if_pos (by omega), ck_pos (by omega), ck_in (by omega) (by omega)]; rfl) s.data.toList.length 0 (by omega)
 rw [List.drop_zero] at h
 unfold blob_isPart.f isPartB
 show ob (loopX (fun x => blob_isPart.s0 s (s.size : Int) x) ((0 : Nat) : Int)) _ = _
 rw [h]
 cases s.data.toList.all partC
 ·rfl
 ·simp only [if_true, ob_s, caseS_r, Bool.true_and, cb_not, cb_dec]
  by_cases e1 : s = bs_
  ·rw [if_pos e1, decide_eq_true e1]; rfl
  ·rw [if_neg e1, decide_eq_false e1]
   by_cases e2 : s = bs_46
   ·rw [if_pos e2, decide_eq_true e2]; rfl
   ·rw [if_neg e2, decide_eq_false e2]; rfl
theorem indexByte_lt : ∀ (l : List UInt8) (c : UInt8), -1 ≤ Lib.indexByte l c ∧ Lib.indexByte l c < l.length
 | [], c => by simp [Lib.indexByte]
 | b :: l, c => by
  have h := indexByte_lt l c
  unfold Lib.indexByte
  split
  ·simp only [List.length_cons]; omega
  ·split
   ·simp only [List.length_cons]; omega
   ·rename_i h1
    have : ¬ Lib.indexByte l c = -1 := by simpa using h1
    simp only [List.length_cons]; omega
theorem index47 (s : ByteArray) : strings_Index.f s bs_47 = some (Lib.indexByte s.data.toList 47) := by
 show ob (ck _ _) _ = _
 rw [ck_pos (by rfl)]; rfl
theorem index58 (s : ByteArray) : internal_stringslite_Index.f s bs_58 = some (Lib.indexByte s.data.toList 58) := by
 show ck _ _ = _
 rw [ck_pos (by rfl)]; rfl
theorem extract_size (s : ByteArray) (a b : Nat) : (s.extract a b).size = min b s.size - a := by simp [ByteArray.size_extract]
theorem splitLoop {n : Nat} (hn : n ≤ 1000000000000) : ∀ (m i : Nat) (s : ByteArray) (a : List ByteArray), n - i = m → i ≤ n → a.length = n + 1 → s.size ≤ BIG →
  ∃ (s' : ByteArray) (i' : Nat) (a' : List ByteArray), strings_genSplit.l0 bs_47 0 (n : Int) s (i : Int) a = some (s', (i' : Int), a') ∧ i' ≤ n ∧ a'.length = n + 1 ∧ (∀ x ∈ a', x.size ≤ s.size ∨ x ∈ a) ∧ s'.size ≤ s.size := by
 intro m
 have hb : BIG = 140737488355328 := rfl
 induction m with
 | zero =>
  intro i s a hm hi ha hs
  refine ⟨s, i, a, loopX_done ?_, hi, ha, fun x hx => .inr hx, Nat.le_refl _⟩
  simp only [strings_genSplit.s0, cb_dec]
  rw [if_neg (by omega)]
 | succ m ih =>
  intro i s a hm hi ha hs
  have hx := indexByte_lt s.data.toList 47
  have hl := size_list s
  by_cases hneg : Lib.indexByte s.data.toList 47 < 0
  ·refine ⟨s, i, a, loopX_done ?_, hi, ha, fun x hx => .inr hx, Nat.le_refl _⟩
   simp only [strings_genSplit.s0, cb_dec, index47, ob_s]
   rw [if_pos (by omega), if_pos hneg]
  ·have hz1 := extract_size s 0 (Int.toNat (Lib.indexByte s.data.toList 47 + 0))
   have hz2 := extract_size s (Int.toNat (Lib.indexByte s.data.toList 47 + ((bs_47.size : Nat) : Int))) s.size
   have h1 : bs_47.size = 1 := rfl
   obtain ⟨s', i', a', h2, h3, h4, h5, h6⟩ := ih (i + 1) (s.extract (Int.toNat (Lib.indexByte s.data.toList 47 + ((bs_47.size : Nat) : Int))) s.size) (a.set i (s.extract 0 (Int.toNat (Lib.indexByte s.data.toList 47 + 0)))) (by omega) (by omega) (by simpa using ha) (by rw [hz2]; omega)
   refine ⟨s', i', a', (loopX_next ?_).trans h2, h3, h4, fun x hx => ?_, by omega⟩
   ·simp only [strings_genSplit.s0, cb_dec, index47, ob_s]
    rw [if_pos (by omega), if_neg hneg, ck_in (by omega) (by omega), ck_pos (by omega), ck_pos (by omega), ck_pos (by rw [Int.toNat_natCast]; omega), ck_in (by rw [h1]; omega) (by rw [h1]; omega), ck_pos (by rw [h1]; omega), ck_in (by omega) (by omega)]
    rfl
   ·rcases h5 x hx with h | h
    ·left; omega
    ·rcases List.mem_or_eq_of_mem_set h with h | h
     ·exact .inr h
     ·left; rw [h, hz1]; omega
theorem countByte_le (l : List UInt8) (c : UInt8) : (Lib.countByte l c : Nat) ≤ l.length := List.count_le_length
theorem split_some {s : ByteArray} (hs : s.size ≤ 1000000) : ∃ l, strings_Split.f s bs_47 = some l ∧ l.length ≤ 1000002 ∧ ∀ x ∈ l, x.size ≤ s.size := by
 have hb : BIG = 140737488355328 := rfl
 have hl := size_list s
 have hc := countByte_le s.data.toList 47
 have hcnt : strings_Count.f s bs_47 = some ((Lib.countByte s.data.toList 47 : Nat) : Int) := by
  show ck _ _ = _
  rw [ck_pos (by rfl)]; rfl
 obtain ⟨s', i', a', h2, h3, h4, h5, h6⟩ := splitLoop (n := Lib.countByte s.data.toList 47) (by omega) _ 0 s (List.replicate (Lib.countByte s.data.toList 47 + 1) ByteArray.empty) rfl (Nat.zero_le _) (by simp) (by omega)
 unfold strings_Split.f strings_genSplit.f
 have e1 : ¬ (bs_47 = bs_) := by decide
 have hy : min (((Lib.countByte s.data.toList 47 : Nat) : Int) + 1) (((s.size : Nat) : Int) + 1) = ((Lib.countByte s.data.toList 47 + 1 : Nat) : Int) := by omega
 simp only [cb_dec, hcnt, ob_s, hy]
 rw [if_neg (by decide), if_neg e1, if_pos (by decide), ck_in (by omega) (by omega), ck_in (by omega) (by omega), ck_pos (by omega), ck_in (by omega) (by omega)]
 rw [show ((Lib.countByte s.data.toList 47 + 1 : Nat) : Int) - 1 = ((Lib.countByte s.data.toList 47 : Nat) : Int) by omega, Int.toNat_natCast]
 rw [show ((0 : Nat) : Int) = 0 from rfl] at h2
 rw [h2, ob_s]
 simp only
 rw [ck_pos (by omega), ck_pos (by rw [Int.toNat_natCast]; omega), ck_in (by omega) (by omega), ck_pos (by simp only [List.length_set]; omega), ob_s]
 refine ⟨_, rfl, by simp only [List.length_take, List.length_drop, List.length_set]; omega, fun x hx => ?_⟩
 have hx1 := List.mem_of_mem_drop (List.mem_of_mem_take hx)
 rcases List.mem_or_eq_of_mem_set hx1 with h | h
 ·rcases h5 x h with h | h
  ·exact h
  ·have := List.eq_of_mem_replicate h
   rw [this]; exact Nat.zero_le _
 ·rw [h]; exact h6
noncomputable def splitL (s : ByteArray) : List ByteArray := (strings_Split.f s bs_47).getD []
theorem split_eq {s : ByteArray} (hs : s.size ≤ 1000000) : strings_Split.f s bs_47 = some (splitL s) ∧ (splitL s).length ≤ 1000002 ∧ ∀ x ∈ splitL s, x.size ≤ s.size := by
 obtain ⟨l, h1, h2, h3⟩ := split_some hs
 have e : splitL s = l := by unfold splitL; rw [h1]; rfl
 rw [e]
 exact ⟨h1, h2, h3⟩
theorem listLoop {α : Type} {l : List α} (p : α → Bool) (f : Int → Option (Int ⊕ (Bool ⊕ Unit))) (hend : ∀ k : Nat, l.length ≤ k → f k = some (.inr (.inr ())))
  (hno : ∀ k : Nat, ∀ h : k < l.length, p l[k] = false → f k = some (.inr (.inl false))) (hyes : ∀ k : Nat, ∀ h : k < l.length, p l[k] = true → f k = some (.inl ((k : Int) + 1))) :
  ∀ (n k : Nat), l.length - k = n → loopX f (k : Int) = some (if (l.drop k).all p then .inr () else .inl false) := by
 intro n
 induction n with
 | zero =>
  intro k hn
  rw [List.drop_eq_nil_of_le (by omega)]
  exact loopX_done (hend k (by omega))
 | succ n ih =>
  intro k hn
  have hlt : k < l.length := by omega
  rw [List.drop_eq_getElem_cons hlt, List.all_cons]
  cases hp : p l[k] with
  | false => exact loopX_done (hno k hlt hp)
  | true =>
   rw [Bool.true_and]
   exact (loopX_next (hyes k hlt hp)).trans (ih (k + 1) (by omega))
noncomputable def isPathB (s : ByteArray) : Bool := if 1 ≤ s.size ∧ s.size ≤ 200 then (splitL s).all isPartB else false
theorem isPath_eq (s : ByteArray) : blob_IsPath.f s = some (isPathB s) := by
 have hb : BIG = 140737488355328 := rfl
 unfold blob_IsPath.f isPathB
 simp only [cb_dec]
 by_cases h1 : ((s.size : Nat) : Int) < 1
 ·rw [if_pos h1, if_neg (by omega)]
 ·by_cases h2 : (200 : Int) < ((s.size : Nat) : Int)
  ·rw [if_neg h1, if_pos h2, if_neg (by omega)]
  ·obtain ⟨g1, g2, g3⟩ := split_eq (s := s) (by omega)
   have h := listLoop (l := splitL s) isPartB (fun x => blob_IsPath.s0 (splitL s) ((splitL s).length : Int) x) (fun k hk => by
    simp only [blob_IsPath.s0, cb_dec]; rw [if_neg (by omega)]) (fun k hk hp => by
    have hz := g3 _ (List.getElem_mem hk)
    simp only [blob_IsPath.s0, cb_dec, rd_lt hk, isPart_eq (s := (splitL s)[k]) (by omega), hp, ob_s]; rw [if_pos (by omega), ck_pos (by omega)]; rfl) (fun k hk hp => by
    have hz := g3 _ (List.getElem_mem hk)
    simp only [blob_IsPath.s0, cb_dec, rd_lt hk, isPart_eq (s := (splitL s)[k]) (by omega), hp, ob_s]; rw [if_pos (by omega), ck_pos (by omega), ck_in (by omega) (by omega)]; rfl) (splitL s).length 0 (by omega)
   rw [List.drop_zero] at h
   rw [if_neg h1, if_neg h2, if_pos (by omega), g1, ob_s]
   show ob (loopX (fun x => blob_IsPath.s0 (splitL s) ((splitL s).length : Int) x) ((0 : Nat) : Int)) _ = _
   rw [h]
   cases (splitL s).all isPartB <;> rfl
def hasP (s p : ByteArray) : Bool := decide (p.size ≤ s.size) && decide (s.extract 0 p.size = p)
theorem hasPrefix_eq (s p : ByteArray) : internal_stringslite_HasPrefix.f s p = some (hasP s p) := by
 unfold internal_stringslite_HasPrefix.f hasP
 simp only [cb_dec, Int.toNat_natCast]
 by_cases h : p.size ≤ s.size
 ·rw [if_pos (by omega), ck_pos (by omega), decide_eq_true h, Bool.true_and]
 ·rw [if_neg (by omega), decide_eq_false h, Bool.false_and]
def cutP (s p : ByteArray) : ByteArray × Bool := if hasP s p then (s.extract p.size s.size, true) else (s, false)
theorem cutPrefix_eq (s p : ByteArray) : strings_CutPrefix.f s p = some (cutP s p) := by
 unfold strings_CutPrefix.f internal_stringslite_CutPrefix.f cutP
 simp only [hasPrefix_eq, ob_s, Int.toNat_natCast]
 cases h : hasP s p with
 | false => rfl
 | true =>
  have h' : p.size ≤ s.size := by
   unfold hasP at h
   rw [Bool.and_eq_true] at h
   exact of_decide_eq_true h.1
  simp only [Bool.not_true, cb_f]
  rw [ck_pos (by omega)]
  rfl
def cut58 (s : ByteArray) : ByteArray × (ByteArray × Bool) :=
 if 0 ≤ Lib.indexByte s.data.toList 58 then (s.extract 0 (Lib.indexByte s.data.toList 58).toNat, s.extract ((Lib.indexByte s.data.toList 58).toNat + 1) s.size, true) else (s, bs_, false)
theorem cut_eq {s : ByteArray} (hs : s.size ≤ BIG) : strings_Cut.f s bs_58 = some (cut58 s) := by
 have hb : BIG = 140737488355328 := rfl
 have hx := indexByte_lt s.data.toList 58
 have hl := size_list s
 have h1 : bs_58.size = 1 := rfl
 unfold strings_Cut.f internal_stringslite_Cut.f cut58
 simp only [index58, ob_s, cb_dec, h1]
 by_cases h : 0 ≤ Lib.indexByte s.data.toList 58
 ·rw [if_pos h, if_pos h, ck_pos (by omega), ck_in (by omega) (by omega), ck_pos (by omega), ob_s]
  rw [show (Lib.indexByte s.data.toList 58 + ((1 : Nat) : Int)).toNat = (Lib.indexByte s.data.toList 58).toNat + 1 by omega]
 ·rw [if_neg h, if_neg h]; rfl
theorem last_some {s : ByteArray} (hs : s.size ≤ BIG) : ∃ r, script_last.f s = some r ∧ r.size ≤ s.size := by
 have hb : BIG = 140737488355328 := rfl
 have hl := size_list s
 have go : ∀ (m : Nat) (k : Int), (k + 1).toNat = m → -1 ≤ k → k < s.size → ∃ r, internal_bytealg_LastIndexByteString.l0 s (UInt8.ofInt 47) k = some r ∧ ∀ i, r = .inl i → 0 ≤ i ∧ i < s.size := by
  intro m
  induction m with
  | zero =>
   intro k hm h1 h2
   refine ⟨.inr (), loopX_done ?_, fun i h => by cases h⟩
   simp only [internal_bytealg_LastIndexByteString.s0, cb_dec]
   rw [if_neg (by omega)]
  | succ m ih =>
   intro k hm h1 h2
   by_cases he : ((UInt8.toNat (bt s k) : Nat) : Int) = ((UInt8.toNat (UInt8.ofInt 47) : Nat) : Int)
   ·refine ⟨.inl k, loopX_done ?_, fun i h => by cases h; omega⟩
    simp only [internal_bytealg_LastIndexByteString.s0, cb_dec]
    rw [if_pos (by omega), ck_pos (by omega), if_pos he]
   ·obtain ⟨r, h3, h4⟩ := ih (k - 1) (by omega) (by omega) (by omega)
    refine ⟨r, (loopX_next ?_).trans h3, h4⟩
    simp only [internal_bytealg_LastIndexByteString.s0, cb_dec]
    rw [if_pos (by omega), ck_pos (by omega), if_neg he, ck_in (by omega) (by omega)]
 obtain ⟨r, h1, h2⟩ := go _ (((s.size : Nat) : Int) - 1) rfl (by omega) (by omega)
 unfold script_last.f strings_LastIndexByte.f internal_bytealg_LastIndexByteString.f
 simp only [h1, ob_s]
 rw [ck_in (by omega) (by omega)]
 cases r with
 | inl i =>
  have := h2 i rfl
  simp only [caseS_l, ob_s]
  rw [ck_in (by omega) (by omega), ck_pos (by omega)]
  exact ⟨_, rfl, by rw [extract_size]; omega⟩
 | inr u =>
  simp only [caseS_r, ob_s]
  rw [ck_in (by omega) (by omega), ck_pos (by omega)]
  exact ⟨_, rfl, by rw [extract_size]; omega⟩
noncomputable def labF (a : ByteArray × ByteArray) : Int := if (a.1 = bs_ ∨ isPathB a.1 = true) ∧ isPathB a.2 = true then 0 else 3
theorem checkLabel_eq (a : ByteArray × ByteArray) : script_CheckLabel.f a = some (labF a) := by
 unfold script_CheckLabel.f labF
 simp only [isPath_eq, ob_s, cb_not, cb_dec]
 by_cases e : a.1 = bs_
 ·simp only [e, if_true, true_or, true_and]
  cases isPathB a.2 <;> rfl
 ·simp only [e, if_false, false_or]
  cases isPathB a.1 <;> cases isPathB a.2 <;> rfl
end Go.Proofs.YtafalbofjmfbnaaDoor
set_option linter.unusedVariables false
set_option linter.unusedSimpArgs false
namespace Go.Proofs.YtafalbofjmfbnaaDoor
open Go Go.Proofs.YtafalbofjmfbnaaDoor.Eng
theorem isWhole_some {s : ByteArray} (hs : s.size ≤ BIG) : ∃ b, script_IsWhole.f s = some b := by
 have hb : BIG = 140737488355328 := rfl
 have hc : ∀ p : ByteArray, (cutP s p).1.size ≤ s.size := fun p => by
  unfold cutP
  split
  ·show (s.extract _ _).size ≤ _; rw [extract_size]; omega
  ·exact Nat.le_refl _
 have hcc : ∀ t : ByteArray, t.size ≤ s.size → (cut58 t).1.size ≤ s.size ∧ (cut58 t).2.1.size ≤ s.size := fun t ht => by
  unfold cut58
  split
  ·constructor
   ·show (t.extract _ _).size ≤ _; rw [extract_size]; omega
   ·show (t.extract _ _).size ≤ _; rw [extract_size]; omega
  ·exact ⟨ht, Nat.zero_le _⟩
 have hw : ∀ a : ByteArray × ByteArray, a.1.size ≤ s.size → a.2.size ≤ s.size → ∃ t, script_Whole.f a = some t := fun a h1 h2 => by
  unfold script_Whole.f
  have e1 : bs_47_47.size = 2 := rfl
  have e2 : bs_58.size = 1 := rfl
  simp only [ByteArray.size_append, e1, e2]
  rw [ck_pos (by omega), ck_pos (by omega), ck_pos (by omega)]
  exact ⟨_, rfl⟩
 have hfin : ∀ r : (ByteArray × ByteArray) × Int, r.1.1.size ≤ s.size → r.1.2.size ≤ s.size → ∃ b, (ob (some r) fun r1 => (cb (decide (r1.2 = (0 : Int))) (ob (script_Whole.f r1.1) fun r2 => (some (decide (r2 = s)))) (some false))) = some b := fun r h1 h2 => by
  simp only [ob_s, cb_dec]
  split
  ·obtain ⟨t, ht⟩ := hw r.1 h1 h2
   rw [ht]; exact ⟨_, rfl⟩
  ·exact ⟨_, rfl⟩
 have hr : ∃ r, script_ReadLabel.f s bs_ = some r ∧ r.1.1.size ≤ s.size ∧ r.1.2.size ≤ s.size := by
  unfold script_ReadLabel.f
  have h1 := hc bs_47_47
  have h2 := hc bs_58
  simp only [decide_true, Bool.not_true, cb_f, cutPrefix_eq, ob_s]
  have fin : ∀ a : ByteArray × ByteArray, a.1.size ≤ s.size → a.2.size ≤ s.size → ∃ r : (ByteArray × ByteArray) × Int, (ob (script_CheckLabel.f a) fun r14 => (cb (!decide (r14 = (0 : Int))) (some ((bs_, bs_), (10 : Int))) (some (a, (0 : Int))))) = some r ∧ r.1.1.size ≤ s.size ∧ r.1.2.size ≤ s.size := fun a g1 g2 => by
   rw [checkLabel_eq, ob_s, cb_not, cb_dec]
   split
   ·exact ⟨_, rfl, g1, g2⟩
   ·exact ⟨_, rfl, Nat.zero_le _, Nat.zero_le _⟩
  cases (cutP s bs_47_47).2 with
  | true =>
   obtain ⟨g1, g2⟩ := hcc _ h1
   simp only [cb_t, cut_eq (s := (cutP s bs_47_47).1) (by omega), ob_s]
   cases (cut58 (cutP s bs_47_47).1).2.2 with
   | true => exact fin _ g1 g2
   | false =>
    obtain ⟨t, t1, t2⟩ := last_some (s := (cut58 (cutP s bs_47_47).1).1) (by omega)
    simp only [Bool.not_false, cb_t, t1, ob_s]
    exact fin ((cut58 (cutP s bs_47_47).1).1, t) g1 (by show t.size ≤ _; omega)
  | false =>
   simp only [cb_f]
   cases (cutP s bs_58).2 with
   | true => exact fin (bs_, (cutP s bs_58).1) (Nat.zero_le _) h2
   | false => exact fin (bs_, bs_) (Nat.zero_le _) (Nat.zero_le _)
 obtain ⟨r, h1, h2, h3⟩ := hr
 unfold script_IsWhole.f
 rw [h1]
 exact hfin r h2 h3
theorem contS (l : List ByteArray) (hl : l.length ≤ 1000000000) (x : ByteArray) : ∃ r : Int, slices_Index_string_string.f l x = some r ∧ ((r = -1 ∧ x ∉ l) ∨ ∃ k : Nat, r = k ∧ ∃ h : k < l.length, l[k] = x ∧ ∀ j : Nat, ∀ h : j < k, l[j]'(by omega) ≠ x) := by
 have go : ∀ (n k : Nat), l.length - k = n → (∀ j : Nat, ∀ h : j < l.length, j < k → l[j] ≠ x) → ∃ r, slices_Index_string_string.l0 l x (l.length : Int) (k : Int) = some r ∧ ((r = .inr () ∧ x ∉ l.drop k) ∨ ∃ i : Nat, r = .inl (i : Int) ∧ ∃ h : i < l.length, l[i] = x ∧ ∀ j : Nat, ∀ h : j < i, l[j]'(by omega) ≠ x) := by
  intro n
  induction n with
  | zero =>
   intro k hn hb
   refine ⟨.inr (), loopX_done ?_, .inl ⟨rfl, by rw [List.drop_eq_nil_of_le (by omega)]; simp⟩⟩
   simp only [slices_Index_string_string.s0, cb_dec]
   rw [if_neg (by omega)]
  | succ n ih =>
   intro k hn hb
   have hlt : k < l.length := by omega
   by_cases e : x = l[k]
   ·refine ⟨.inl (k : Int), loopX_done ?_, .inr ⟨k, rfl, hlt, e.symm, fun j hj => hb j (by omega) hj⟩⟩
    simp only [slices_Index_string_string.s0, cb_dec, rd_lt hlt]
    rw [if_pos (by omega), ck_pos (by omega), if_pos e]
   ·obtain ⟨r, h1, h2⟩ := ih (k + 1) (by omega) (fun j hj hjk => by
     rcases Nat.lt_or_ge j k with h | h
     ·exact hb j hj h
     ·have : j = k := by omega
      subst this
      exact fun h => e h.symm)
    refine ⟨r, (loopX_next ?_).trans h1, ?_⟩
    ·simp only [slices_Index_string_string.s0, cb_dec, rd_lt hlt]
     rw [if_pos (by omega), ck_pos (by omega), if_neg e, ck_in (by omega) (by omega)]
     rfl
    ·rcases h2 with ⟨h2, h3⟩ | h2
     ·refine .inl ⟨h2, fun hm => ?_⟩
      rw [List.drop_eq_getElem_cons hlt] at hm
      rcases List.mem_cons.1 hm with h | h
      ·exact e h
      ·exact h3 h
     ·exact .inr h2
 obtain ⟨r, h1, h2⟩ := go l.length 0 (by omega) (fun j _ hj => absurd hj (Nat.not_lt_zero _))
 rw [show ((0 : Nat) : Int) = 0 from rfl] at h1
 unfold slices_Index_string_string.f
 simp only [h1, ob_s]
 rcases h2 with ⟨rfl, h3⟩ | ⟨i, rfl, h3⟩
 ·exact ⟨-1, rfl, .inl ⟨rfl, by simpa using h3⟩⟩
 ·exact ⟨i, rfl, .inr ⟨i, rfl, h3⟩⟩
theorem isSmall_eq (c : UInt8) : ∃ b, script_isSmall.f c = some b := by
 unfold script_isSmall.f
 rw [cb_dec]; split <;> exact ⟨_, rfl⟩
theorem isDigit_eq (c : UInt8) : ∃ b, script_isDigit.f c = some b := by
 unfold script_isDigit.f
 rw [cb_dec]; split <;> exact ⟨_, rfl⟩
theorem isName_some {s : ByteArray} : ∃ b, script_IsName.f s = some b := by
 have hl := size_list s
 unfold script_IsName.f
 simp only [cb_dec]
 by_cases h1 : ((s.size : Nat) : Int) < 1
 ·rw [if_pos h1]; exact ⟨_, rfl⟩
 ·by_cases h2 : (40 : Int) < ((s.size : Nat) : Int)
  ·rw [if_neg h1, if_pos h2]; exact ⟨_, rfl⟩
  ·rw [if_neg h1, if_neg h2, ck_pos (by omega)]
   obtain ⟨b, hb⟩ := isSmall_eq (bt s 0)
   rw [hb, ob_s]
   cases b with
   | false => exact ⟨_, rfl⟩
   | true =>
    have go : ∀ (n k : Nat), s.size - k = n → ∃ r, script_IsName.l0 s (s.size : Int) (k : Int) = some r := by
     intro n
     induction n with
     | zero =>
      intro k hn
      refine ⟨.inr (), loopX_done ?_⟩
      simp only [script_IsName.s0, cb_dec]
      rw [if_neg (by omega)]
     | succ n ih =>
      intro k hn
      obtain ⟨r, hr⟩ := ih (k + 1) (by omega)
      have c0 : 0 ≤ (k : Int) ∧ (k : Int) < ((s.size : Nat) : Int) := by omega
      have c1 : InR ((k : Int) + 1) := ⟨by omega, by omega⟩
      obtain ⟨b1, hb1⟩ := isSmall_eq (bt s (k : Int))
      obtain ⟨b2, hb2⟩ := isDigit_eq (bt s (k : Int))
      by_cases hstop : b1 = false ∧ b2 = false ∧ ¬ ((UInt8.toNat (bt s (k : Int)) : Nat) : Int) = 95
      ·refine ⟨.inl false, loopX_done ?_⟩
       simp only [script_IsName.s0, cb_dec, cb_not, if_pos c0.2, ck_pos c0, hb1, hb2, ob_s, hstop.1, hstop.2.1, cb_f, if_neg hstop.2.2]
      ·refine ⟨r, (loopX_next ?_).trans hr⟩
       simp only [script_IsName.s0, cb_dec, cb_not, if_pos c0.2, ck_pos c0, ck_pos c1, hb1, hb2, ob_s]
       cases b1 with
       | true => rfl
       | false =>
        cases b2 with
        | true => rfl
        | false =>
         have : ((UInt8.toNat (bt s (k : Int)) : Nat) : Int) = 95 := Classical.byContradiction fun h => hstop ⟨rfl, rfl, h⟩
         simp only [cb_f, if_pos this]; rfl
    obtain ⟨r, hr⟩ := go s.size 0 (by omega)
    rw [show ((0 : Nat) : Int) = 0 from rfl] at hr
    simp only [Bool.not_true, cb_f, hr, ob_s]
    cases r with
    | inl b => exact ⟨_, rfl⟩
    | inr u =>
     obtain ⟨r, h1, _⟩ := contS [bs_109_97_99_114_111, bs_102_111_114, bs_105_110, bs_105_102, bs_101_108_115_101, bs_117_115_101, bs_102_105_108_101_115, bs_99_104_111_111_115_101] (by decide) s
     simp only [caseS_r, script_words.f, ob_s, slices_Contains_string_string.f, h1]
     exact ⟨_, rfl⟩
def cmpS (a b : ByteArray) : Int := Lib.compareBytes a.data.toList b.data.toList
theorem cmpL_less : ∀ a b : List UInt8, (Lib.compareBytes a b < 0 ↔ Op.bytesLess a b = true)
 | [], [] => by simp [Lib.compareBytes, Op.bytesLess]
 | [], _ :: _ => by simp [Lib.compareBytes, Op.bytesLess]
 | _ :: _, [] => by simp [Lib.compareBytes, Op.bytesLess]
 | x :: a, y :: b => by
  have ih := cmpL_less a b
  unfold Lib.compareBytes Op.bytesLess
  by_cases h1 : x < y
  ·simp [h1]
  ·by_cases h2 : y < x
   ·have h3 : ¬ x = y := fun e => by subst e; exact absurd h2 (UInt8.lt_irrefl x)
    simp [h1, h2, h3]
   ·have h3 : x = y := UInt8.le_antisymm (UInt8.not_lt.1 h2) (UInt8.not_lt.1 h1)
    subst h3
    simp only [h1, if_false, decide_false, Bool.false_or, beq_self_eq_true, Bool.true_and]
    exact ih
theorem cmpL_eq0 : ∀ a b : List UInt8, (Lib.compareBytes a b = 0 ↔ a = b)
 | [], [] => by simp [Lib.compareBytes]
 | [], _ :: _ => by simp [Lib.compareBytes]
 | _ :: _, [] => by simp [Lib.compareBytes]
 | x :: a, y :: b => by
  have ih := cmpL_eq0 a b
  unfold Lib.compareBytes
  by_cases h1 : x < y
  ·have h3 : ¬ x = y := fun e => by subst e; exact absurd h1 (UInt8.lt_irrefl x)
   simp [h1, h3]
  ·by_cases h2 : y < x
   ·have h3 : ¬ x = y := fun e => by subst e; exact absurd h2 (UInt8.lt_irrefl x)
    simp [h1, h2, h3]
   ·have h3 : x = y := UInt8.le_antisymm (UInt8.not_lt.1 h2) (UInt8.not_lt.1 h1)
    subst h3
    simp only [h1, if_false, List.cons.injEq, true_and]
    exact ih
theorem cmpL_swap : ∀ a b : List UInt8, Lib.compareBytes b a = - Lib.compareBytes a b
 | [], [] => rfl
 | [], _ :: _ => rfl
 | _ :: _, [] => rfl
 | x :: a, y :: b => by
  have ih := cmpL_swap a b
  unfold Lib.compareBytes
  by_cases h1 : x < y
  ·have h2 : ¬ y < x := UInt8.not_lt.2 (UInt8.le_of_lt h1)
   simp [h1, h2]
  ·by_cases h2 : y < x
   ·simp [h1, h2]
   ·simp only [h1, h2, if_false]; exact ih
theorem cmpL_trans : ∀ a b c : List UInt8, Lib.compareBytes a b < 0 → Lib.compareBytes b c < 0 → Lib.compareBytes a c < 0
 | [], [], c, h, _ => by simp [Lib.compareBytes] at h
 | [], _ :: _, [], _, h => by simp [Lib.compareBytes] at h
 | [], _ :: _, _ :: _, _, _ => by simp [Lib.compareBytes]
 | _ :: _, [], c, h, _ => by simp [Lib.compareBytes] at h
 | _ :: _, _ :: _, [], _, h => by simp [Lib.compareBytes] at h
 | x :: a, y :: b, z :: c, h, h' => by
  have ih := cmpL_trans a b c
  unfold Lib.compareBytes at h h' ⊢
  by_cases h1 : x < y
  ·by_cases h2 : y < z
   ·simp [UInt8.lt_trans h1 h2]
   ·by_cases h3 : z < y
    ·simp [h2, h3] at h'
    ·have e : y = z := UInt8.le_antisymm (UInt8.not_lt.1 h3) (UInt8.not_lt.1 h2)
     subst e; simp [h1]
  ·by_cases h2 : y < x
   ·simp [h1, h2] at h
   ·have e : x = y := UInt8.le_antisymm (UInt8.not_lt.1 h2) (UInt8.not_lt.1 h1)
    subst e
    by_cases h3 : x < z
    ·simp [h3]
    ·by_cases h4 : z < x
     ·simp [h3, h4] at h'
     ·simp only [h1, if_false] at h
      simp only [h3, h4, if_false] at h' ⊢
      exact ih h h'
theorem bless_iff (a b : ByteArray) : bless a b = true ↔ cmpS a b < 0 := by
 unfold bless cmpS
 rw [ByteArray.toList_eq, ByteArray.toList_eq]
 exact (cmpL_less _ _).symm
theorem cmpS_eq0 (a b : ByteArray) : cmpS a b = 0 ↔ a = b := by
 unfold cmpS
 rw [cmpL_eq0]
 exact ⟨fun h => ByteArray.ext (Array.toList_inj.1 h), fun h => by rw [h]⟩
theorem cmpS_swap (a b : ByteArray) : cmpS b a = - cmpS a b := cmpL_swap _ _
theorem cmpS_trans {a b c : ByteArray} (h : cmpS a b < 0) (h' : cmpS b c < 0) : cmpS a c < 0 := cmpL_trans _ _ _ h h'
theorem leq_iff (a b : ByteArray) : (bless a b || decide (a = b)) = decide (cmpS a b ≤ 0) := by
 have h1 := bless_iff a b
 have h2 := cmpS_eq0 a b
 by_cases h : cmpS a b < 0
 ·rw [h1.2 h, Bool.true_or, decide_eq_true (by omega)]
 ·have hf : bless a b = false := by
   cases hb : bless a b with
   | false => rfl
   | true => exact absurd (h1.1 hb) h
  rw [hf, Bool.false_or]
  exact decide_eq_decide.2 ⟨fun e => by rw [h2.2 e]; exact Int.le_refl _, fun e => h2.1 (by omega)⟩
def Rising (l : List ByteArray) : Prop := ∀ i j : Nat, ∀ h : j < l.length, ∀ h' : i < j, cmpS (l[i]'(by omega)) l[j] < 0
theorem rising_step {l : List ByteArray} (h : ∀ k : Nat, ∀ hk : k + 1 < l.length, cmpS (l[k]'(by omega)) l[k + 1] < 0) : Rising l := by
 intro i j
 induction j with
 | zero => intro h h'; omega
 | succ j ih =>
  intro hj hij
  rcases Nat.lt_or_ge i j with h1 | h1
  ·exact cmpS_trans (ih (by omega) h1) (h j hj)
  ·have : i = j := by omega
   subst this
   exact h i hj
theorem Rising.inj {l : List ByteArray} (h : Rising l) {i j : Nat} (hi : i < l.length) (hj : j < l.length) (e : l[i] = l[j]) : i = j := by
 rcases Nat.lt_trichotomy i j with h1 | h1 | h1
 ·have := h i j hj h1
  rw [e] at this
  have h0 := (cmpS_eq0 l[j] l[j]).2 rfl
  omega
 ·exact h1
 ·have := h j i hi h1
  rw [e] at this
  have h0 := (cmpS_eq0 l[j] l[j]).2 rfl
  omega
theorem riseLoop {l : List ByteArray} (hl : l.length ≤ 1000000000) (form : ByteArray → Option Bool) (hform : ∀ x ∈ l, ∃ b, form x = some b) (step : Int → Option (Int ⊕ (Int ⊕ Unit)))
  (hend : ∀ k : Nat, l.length ≤ k → step k = some (.inr (.inr ())))
  (hno : ∀ k : Nat, ∀ h : k < l.length, form l[k] = some false → step k = some (.inr (.inl 3)))
  (hbad : ∀ k : Nat, ∀ h : k + 1 < l.length, form l[k + 1] = some true → cmpS l[k + 1] (l[k]'(by omega)) ≤ 0 → step ((k + 1 : Nat) : Int) = some (.inr (.inl 8)))
  (hyes : ∀ k : Nat, ∀ h : k < l.length, form l[k] = some true → (∀ h0 : 0 < k, ¬ cmpS l[k] (l[k - 1]'(by omega)) ≤ 0) → step k = some (.inl ((k : Int) + 1))) :
  ∀ (n k : Nat), l.length - k = n → (∃ f : Int, f ≠ 0 ∧ loopX step (k : Int) = some (.inl f)) ∨ (loopX step (k : Int) = some (.inr ()) ∧ (∀ x ∈ l.drop k, form x = some true) ∧ ∀ i : Nat, ∀ h : i + 1 < l.length, k ≤ i + 1 → cmpS (l[i]'(by omega)) l[i + 1] < 0) := by
 intro n
 induction n with
 | zero =>
  intro k hn
  refine .inr ⟨loopX_done (hend k (by omega)), fun x hx => ?_, fun i h hki => by omega⟩
  rw [List.drop_eq_nil_of_le (by omega)] at hx
  cases hx
 | succ n ih =>
  intro k hn
  have hlt : k < l.length := by omega
  obtain ⟨b, hb⟩ := hform _ (List.getElem_mem hlt)
  cases b with
  | false => exact .inl ⟨3, by decide, loopX_done (hno k hlt hb)⟩
  | true =>
   by_cases hbd : ∃ h0 : 0 < k, cmpS l[k] (l[k - 1]'(by omega)) ≤ 0
   ·obtain ⟨h0, h1⟩ := hbd
    obtain ⟨k', rfl⟩ : ∃ k', k = k' + 1 := ⟨k - 1, by omega⟩
    exact .inl ⟨8, by decide, loopX_done (hbad k' hlt hb h1)⟩
   ·have hs := hyes k hlt hb (fun h0 h => hbd ⟨h0, h⟩)
    rcases ih (k + 1) (by omega) with ⟨f, h1, h2⟩ | ⟨h1, h2, h3⟩
    ·exact .inl ⟨f, h1, (loopX_next hs).trans h2⟩
    ·refine .inr ⟨(loopX_next hs).trans h1, fun x hx => ?_, fun i hi hki => ?_⟩
     ·rw [List.drop_eq_getElem_cons hlt] at hx
      rcases List.mem_cons.1 hx with rfl | hx
      ·exact hb
      ·exact h2 x hx
     ·rcases Nat.lt_or_ge i k with h4 | h4
      ·have e : k = i + 1 := by omega
       subst e
       have h5 : ¬ cmpS l[i + 1] (l[i]'(by omega)) ≤ 0 := fun h => hbd ⟨by omega, h⟩
       have := cmpS_swap l[i + 1] (l[i]'(by omega))
       omega
      ·exact h3 i hi (by omega)
end Go.Proofs.YtafalbofjmfbnaaDoor
set_option linter.unusedVariables false
set_option linter.unusedSimpArgs false
namespace Go.Proofs.YtafalbofjmfbnaaDoor
open Go Go.Proofs.YtafalbofjmfbnaaDoor.Eng
theorem hasSuffix_some (s p : ByteArray) (hs : s.size ≤ BIG) : ∃ b, internal_stringslite_HasSuffix.f s p = some b ∧ (b = true → p.size ≤ s.size) := by
 have hb : BIG = 140737488355328 := rfl
 unfold internal_stringslite_HasSuffix.f
 simp only [cb_dec]
 by_cases h : ((p.size : Nat) : Int) ≤ ((s.size : Nat) : Int)
 ·rw [if_pos h, ck_in (by omega) (by omega), ck_pos (by omega)]
  exact ⟨_, rfl, fun _ => by omega⟩
 ·rw [if_neg h]; exact ⟨_, rfl, fun h => by cases h⟩
theorem isPattern_some {s : ByteArray} (hs : s.size ≤ BIG) : ∃ b, graph_IsPattern.f s = some b := by
 have hb : BIG = 140737488355328 := rfl
 have hc : (cutP s bs_47_47).1.size ≤ s.size := by
  unfold cutP
  split
  ·show (s.extract _ _).size ≤ _; rw [extract_size]; omega
  ·exact Nat.le_refl _
 unfold graph_IsPattern.f strings_TrimSuffix.f internal_stringslite_TrimSuffix.f strings_HasSuffix.f
 simp only [cutPrefix_eq, ob_s, cb_dec, cb_not]
 cases (cutP s bs_47_47).2 with
 | false => exact ⟨_, rfl⟩
 | true =>
  rw [cb_t]
  by_cases e1 : (cutP s bs_47_47).1 = bs_
  ·rw [if_pos e1]; exact ⟨_, rfl⟩
  ·rw [if_neg e1]
   by_cases e2 : (cutP s bs_47_47).1 = bs_46_46_46
   ·rw [if_pos e2]; exact ⟨_, rfl⟩
   ·rw [if_neg e2]
    obtain ⟨b, h1, h2⟩ := hasSuffix_some (cutP s bs_47_47).1 bs_47_46_46_46 (by omega)
    have fin : ∀ t : ByteArray, t.size ≤ BIG → ∃ b, (ob (blob_IsPath.f t) fun r3 => cb r3 (if t = bs_46_46_46 then some false else ob (ob (internal_stringslite_HasSuffix.f t bs_47_46_46_46) fun r1 => some r1) fun r4 => some (!r4)) (some false)) = some b := fun t ht => by
     rw [isPath_eq, ob_s]
     cases isPathB t with
     | false => exact ⟨_, rfl⟩
     | true =>
      rw [cb_t]
      split
      ·exact ⟨_, rfl⟩
      ·obtain ⟨b, h1, _⟩ := hasSuffix_some t bs_47_46_46_46 ht
       rw [h1]; exact ⟨_, rfl⟩
    rw [h1, ob_s]
    cases b with
    | false => exact fin _ (by omega)
    | true =>
     have := h2 rfl
     simp only [cb_t]
     rw [ck_in (by omega) (by omega), ck_pos (by omega)]
     refine fin _ ?_
     rw [extract_size]; omega
end Go.Proofs.YtafalbofjmfbnaaDoor
set_option linter.unusedVariables false
set_option linter.unusedSimpArgs false
namespace Go.Proofs.YtafalbofjmfbnaaDoor
open Go Go.Proofs.YtafalbofjmfbnaaDoor.Eng
theorem ck_rfl {β α : Type} {x : α} {a : Option β} : ck (x = x) a = a := ck_pos rfl
theorem risingW' {l : List ByteArray} (hl : l.length ≤ 1000000000) (hs : ∀ x ∈ l, x.size ≤ BIG) : (∃ f : Int, f ≠ 0 ∧ graph_rising_f136.f l () = some f) ∨ (graph_rising_f136.f l () = some 0 ∧ (∀ x ∈ l, script_IsWhole.f x = some true) ∧ Rising l) := by
 have h := riseLoop hl script_IsWhole.f (fun x hx => isWhole_some (hs x hx)) (fun x => graph_rising_f136.s0 l l (l.length : Int) x) (fun k hk => by
   simp only [graph_rising_f136.s0, cb_dec]; rw [if_neg (by omega)]) (fun k hk hf => by
   simp only [graph_rising_f136.s0, cb_dec, rd_lt hk, hf, ob_s]; rw [if_pos (by omega), ck_pos (by omega)]; rfl) (fun k hk hf hc => by
   have hk' : k < l.length := by omega
   have e : ((k + 1 : Nat) : Int) - 1 = (k : Int) := by omega
   simp only [graph_rising_f136.s0, cb_dec, rd_lt hk, hf, ob_s, Bool.not_true, cb_f, e, rd_lt hk', leq_iff]
   rw [if_pos (by omega), ck_pos (by omega), if_pos (by omega), ck_in (by omega) (by omega), ck_pos (by omega), if_pos hc]) (fun k hk hf hc => by
   rcases Nat.eq_zero_or_pos k with h0 | h0
   ·subst h0
    simp only [graph_rising_f136.s0, cb_dec, rd_lt hk, hf, ob_s, Bool.not_true, cb_f]
    rw [if_pos (by omega), ck_pos (by omega), if_neg (by omega), ck_in (by omega) (by omega)]
   ·obtain ⟨k', rfl⟩ : ∃ k', k = k' + 1 := ⟨k - 1, by omega⟩
    have hk' : k' < l.length := by omega
    have e : ((k' + 1 : Nat) : Int) - 1 = (k' : Int) := by omega
    have hc' := hc h0
    simp only [Nat.add_sub_cancel] at hc'
    simp only [graph_rising_f136.s0, cb_dec, rd_lt hk, hf, ob_s, Bool.not_true, cb_f, e, rd_lt hk', leq_iff]
    rw [if_pos (by omega), ck_pos (by omega), if_pos (by omega), ck_in (by omega) (by omega), ck_pos (by omega), if_neg hc', ck_in (by omega) (by omega)]) l.length 0 (by omega)
 unfold graph_rising_f136.f
 show (∃ f : Int, f ≠ 0 ∧ ob (loopX (fun x => graph_rising_f136.s0 l l (l.length : Int) x) ((0 : Nat) : Int)) _ = _) ∨ (ob (loopX (fun x => graph_rising_f136.s0 l l (l.length : Int) x) ((0 : Nat) : Int)) _ = _ ∧ _)
 rcases h with ⟨f, h1, h2⟩ | ⟨h1, h2, h3⟩
 ·rw [h2]; exact .inl ⟨f, h1, rfl⟩
 ·rw [h1]; exact .inr ⟨rfl, fun x hx => h2 x (by simpa using hx), rising_step fun k hk => h3 k hk (by omega)⟩
theorem risingW {l : List ByteArray} (hl : l.length ≤ 1000000000) (hs : ∀ x ∈ l, x.size ≤ BIG) : ∃ f, graph_rising_f136.f l () = some f ∧ (f = 0 → Rising l) := by
 rcases risingW' hl hs with ⟨f, h1, h2⟩ | ⟨h1, _, h2⟩
 ·exact ⟨f, h2, fun h => absurd h h1⟩
 ·exact ⟨0, h1, fun _ => h2⟩
theorem rise_ok {l : List ByteArray} (hl : l.length ≤ 1000000000) (hw : ∀ x ∈ l, script_IsWhole.f x = some true) (hr : Rising l) : graph_rising_f136.f l () = some 0 := by
 have go : ∀ (n k : Nat), l.length - k = n → graph_rising_f136.l0 l l (l.length : Int) (k : Int) = some (.inr ()) := by
  intro n
  induction n with
  | zero =>
   intro k hn
   refine loopX_done ?_
   simp only [graph_rising_f136.s0, cb_dec]; rw [if_neg (by omega)]
  | succ n ih =>
   intro k hn
   have hk : k < l.length := by omega
   refine (loopX_next ?_).trans (ih (k + 1) (by omega))
   have hf := hw _ (List.getElem_mem hk)
   rcases Nat.eq_zero_or_pos k with h0 | h0
   ·subst h0
    simp only [graph_rising_f136.s0, cb_dec, rd_lt hk, hf, ob_s, Bool.not_true, cb_f]
    rw [if_pos (by omega), ck_pos (by omega), if_neg (by omega), ck_in (by omega) (by omega)]
    rfl
   ·obtain ⟨k', rfl⟩ : ∃ k', k = k' + 1 := ⟨k - 1, by omega⟩
    have hk' : k' < l.length := by omega
    have e : ((k' + 1 : Nat) : Int) - 1 = (k' : Int) := by omega
    have hc' : ¬ cmpS l[k' + 1] l[k'] ≤ 0 := by
     have := hr k' (k' + 1) hk (Nat.lt_succ_self _)
     have := cmpS_swap l[k'] l[k' + 1]
     omega
    simp only [graph_rising_f136.s0, cb_dec, rd_lt hk, hf, ob_s, Bool.not_true, cb_f, e, rd_lt hk', leq_iff]
    rw [if_pos (by omega), ck_pos (by omega), if_pos (by omega), ck_in (by omega) (by omega), ck_pos (by omega), if_neg hc', ck_in (by omega) (by omega)]
    rfl
 unfold graph_rising_f136.f
 have h := go l.length 0 (by omega)
 rw [show ((0 : Nat) : Int) = 0 from rfl] at h
 simp only [h, ob_s, caseS_r]
theorem risingP {l : List ByteArray} (hl : l.length ≤ 1000000000) : ∃ f, graph_rising_f72.f l () = some f := by
 have h := riseLoop hl blob_IsPath.f (fun x hx => ⟨_, isPath_eq x⟩) (fun x => graph_rising_f72.s0 l l (l.length : Int) x) (fun k hk => by
   simp only [graph_rising_f72.s0, cb_dec]; rw [if_neg (by omega)]) (fun k hk hf => by
   simp only [graph_rising_f72.s0, cb_dec, rd_lt hk, hf, ob_s]; rw [if_pos (by omega), ck_pos (by omega)]; rfl) (fun k hk hf hc => by
   have hk' : k < l.length := by omega
   have e : ((k + 1 : Nat) : Int) - 1 = (k : Int) := by omega
   simp only [graph_rising_f72.s0, cb_dec, rd_lt hk, hf, ob_s, Bool.not_true, cb_f, e, rd_lt hk', leq_iff]
   rw [if_pos (by omega), ck_pos (by omega), if_pos (by omega), ck_in (by omega) (by omega), ck_pos (by omega), if_pos hc]) (fun k hk hf hc => by
   rcases Nat.eq_zero_or_pos k with h0 | h0
   ·subst h0
    simp only [graph_rising_f72.s0, cb_dec, rd_lt hk, hf, ob_s, Bool.not_true, cb_f]
    rw [if_pos (by omega), ck_pos (by omega), if_neg (by omega), ck_in (by omega) (by omega)]
   ·obtain ⟨k', rfl⟩ : ∃ k', k = k' + 1 := ⟨k - 1, by omega⟩
    have hk' : k' < l.length := by omega
    have e : ((k' + 1 : Nat) : Int) - 1 = (k' : Int) := by omega
    have hc' := hc h0
    simp only [Nat.add_sub_cancel] at hc'
    simp only [graph_rising_f72.s0, cb_dec, rd_lt hk, hf, ob_s, Bool.not_true, cb_f, e, rd_lt hk', leq_iff]
    rw [if_pos (by omega), ck_pos (by omega), if_pos (by omega), ck_in (by omega) (by omega), ck_pos (by omega), if_neg hc', ck_in (by omega) (by omega)]) l.length 0 (by omega)
 unfold graph_rising_f72.f
 show ∃ f, ob (loopX (fun x => graph_rising_f72.s0 l l (l.length : Int) x) ((0 : Nat) : Int)) _ = _
 rcases h with ⟨f, h1, h2⟩ | ⟨h1, _, h3⟩
 ·rw [h2]; exact ⟨f, rfl⟩
 ·rw [h1]; exact ⟨0, rfl⟩
theorem risingN {l : List ByteArray} (hl : l.length ≤ 1000000000) (hs : ∀ x ∈ l, x.size ≤ BIG) : ∃ f, graph_rising_f139.f l () = some f := by
 have h := riseLoop hl graph_IsPattern.f (fun x hx => isPattern_some (hs x hx)) (fun x => graph_rising_f139.s0 l l (l.length : Int) x) (fun k hk => by
   simp only [graph_rising_f139.s0, cb_dec]; rw [if_neg (by omega)]) (fun k hk hf => by
   simp only [graph_rising_f139.s0, cb_dec, rd_lt hk, hf, ob_s]; rw [if_pos (by omega), ck_pos (by omega)]; rfl) (fun k hk hf hc => by
   have hk' : k < l.length := by omega
   have e : ((k + 1 : Nat) : Int) - 1 = (k : Int) := by omega
   simp only [graph_rising_f139.s0, cb_dec, rd_lt hk, hf, ob_s, Bool.not_true, cb_f, e, rd_lt hk', leq_iff]
   rw [if_pos (by omega), ck_pos (by omega), if_pos (by omega), ck_in (by omega) (by omega), ck_pos (by omega), if_pos hc]) (fun k hk hf hc => by
   rcases Nat.eq_zero_or_pos k with h0 | h0
   ·subst h0
    simp only [graph_rising_f139.s0, cb_dec, rd_lt hk, hf, ob_s, Bool.not_true, cb_f]
    rw [if_pos (by omega), ck_pos (by omega), if_neg (by omega), ck_in (by omega) (by omega)]
   ·obtain ⟨k', rfl⟩ : ∃ k', k = k' + 1 := ⟨k - 1, by omega⟩
    have hk' : k' < l.length := by omega
    have e : ((k' + 1 : Nat) : Int) - 1 = (k' : Int) := by omega
    have hc' := hc h0
    simp only [Nat.add_sub_cancel] at hc'
    simp only [graph_rising_f139.s0, cb_dec, rd_lt hk, hf, ob_s, Bool.not_true, cb_f, e, rd_lt hk', leq_iff]
    rw [if_pos (by omega), ck_pos (by omega), if_pos (by omega), ck_in (by omega) (by omega), ck_pos (by omega), if_neg hc', ck_in (by omega) (by omega)]) l.length 0 (by omega)
 unfold graph_rising_f139.f
 show ∃ f, ob (loopX (fun x => graph_rising_f139.s0 l l (l.length : Int) x) ((0 : Nat) : Int)) _ = _
 rcases h with ⟨f, h1, h2⟩ | ⟨h1, _, h3⟩
 ·rw [h2]; exact ⟨f, rfl⟩
 ·rw [h1]; exact ⟨0, rfl⟩
def szNd (n : Nd) : Prop := n.1.size ≤ BIG ∧ (∀ x ∈ n.2.2.1, x.size ≤ BIG) ∧ (∀ x ∈ n.2.2.2.1, x.size ≤ BIG) ∧ ∀ x ∈ n.2.2.2.2.1, x.size ≤ BIG
theorem checkNode_some {n : Nd} (h : szNd n) : ∃ f, graph_checkNode.f n = some f ∧ (f = 0 → n.2.2.1.length ≤ 300 ∧ Rising n.2.2.1 ∧ 0 ≤ n.2.2.2.2.2 ∧ n.2.2.2.2.2 ≤ 1000000 ∧ n.2.2.2.1.length ≤ 1000) := by
 unfold graph_checkNode.f
 obtain ⟨b1, h1⟩ := isWhole_some h.1
 obtain ⟨b2, h2⟩ := isName_some (s := n.2.1)
 simp only [h1, h2, ob_s, cb_dec, cb_not]
 cases b1 with
 | false => exact ⟨3, rfl, fun h => by cases h⟩
 | true =>
  cases b2 with
  | false => exact ⟨5, rfl, fun h => by cases h⟩
  | true =>
   simp only [cb_t]
   by_cases c1 : (300 : Int) < ((n.2.2.1.length : Nat) : Int)
   ·rw [if_pos c1]; exact ⟨2, rfl, fun h => by cases h⟩
   ·rw [if_neg c1]
    obtain ⟨f1, g1, g2⟩ := risingW (l := n.2.2.1) (by omega) h.2.1
    rw [g1, ob_s]
    by_cases e1 : f1 = 0
    ·rw [if_pos e1]
     by_cases c2 : (1000 : Int) < ((n.2.2.2.1.length : Nat) : Int)
     ·rw [if_pos c2]; exact ⟨2, rfl, fun h => by cases h⟩
     ·rw [if_neg c2]
      obtain ⟨f2, g3⟩ := risingP (l := n.2.2.2.1) (by omega)
      rw [g3, ob_s]
      by_cases e2 : f2 = 0
      ·rw [if_pos e2]
       by_cases c3 : (50 : Int) < ((n.2.2.2.2.1.length : Nat) : Int)
       ·rw [if_pos c3]; exact ⟨2, rfl, fun h => by cases h⟩
       ·rw [if_neg c3]
        obtain ⟨f3, g4⟩ := risingN (l := n.2.2.2.2.1) (by omega) h.2.2.2
        rw [g4, ob_s]
        by_cases e3 : f3 = 0
        ·rw [if_pos e3]
         by_cases c4 : n.2.2.2.2.2 < 0
         ·rw [if_pos c4]; exact ⟨1, rfl, fun h => by cases h⟩
         ·rw [if_neg c4]
          by_cases c5 : 1000000 < n.2.2.2.2.2
          ·rw [if_pos c5]; exact ⟨1, rfl, fun h => by cases h⟩
          ·rw [if_neg c5]; exact ⟨0, rfl, fun _ => ⟨by omega, g2 e1, by omega, by omega, by omega⟩⟩
        ·rw [if_neg e3]; exact ⟨f3, rfl, fun h => absurd h e3⟩
      ·rw [if_neg e2]; exact ⟨f2, rfl, fun h => absurd h e2⟩
    ·rw [if_neg e1]; exact ⟨f1, rfl, fun h => absurd h e1⟩
theorem at1_eq (n : Nd) (s : ByteArray) : graph_at_1.f n s = some (cmpS n.1 s) := rfl
def labs (g : List Nd) : List ByteArray := g.map (·.1)
theorem labs_get {g : List Nd} {k : Nat} (h : k < g.length) : (labs g)[k]'(by unfold labs; simpa using h) = g[k].1 := by simp [labs]
theorem half {a b : Nat} (ha : a ≤ 1000000) (hb : b ≤ 1000000) : IntKind.i64.wrap (Int.fdiv (IntKind.u64.wrap ((a : Int) + (b : Int))) (2 ^ min (Int.toNat (1 : Int)) (IntKind.bits .u64))) = ((a + b) / 2 : Nat) := by
 have e1 : IntKind.u64.wrap ((a : Int) + (b : Int)) = ((a + b : Nat) : Int) := by
  simp only [IntKind.wrap, IntKind.bits, IntKind.signed, Bool.false_and, Bool.false_eq_true, if_false]
  have e : (2 : Int) ^ 64 = 18446744073709551616 := by decide
  rw [e]; omega
 have e2 : (2 : Int) ^ min (Int.toNat (1 : Int)) (IntKind.bits .u64) = 2 := by decide
 rw [e1, e2]
 have e3 : Int.fdiv ((a + b : Nat) : Int) 2 = ((a + b) / 2 : Nat) := by
  rw [Int.fdiv_eq_ediv_of_nonneg _ (by decide)]; omega
 rw [e3]
 exact IntWalk.i64_in _ ⟨by omega, by omega⟩
theorem at_ok {g : List Nd} (hl : g.length ≤ 1000) (hr : Rising (labs g)) (s : ByteArray) : ∃ r, graph_at.f g s = some r ∧ ((r = -1 ∧ ∀ k : Nat, ∀ h : k < g.length, g[k].1 ≠ s) ∨ ∃ k : Nat, r = k ∧ ∃ h : k < g.length, g[k].1 = s) := by
 have go : ∀ (n a b : Nat), b - a = n → a ≤ b → b ≤ g.length → (∀ k : Nat, ∀ h : k < g.length, k < a → cmpS g[k].1 s < 0) → (∀ k : Nat, ∀ h : k < g.length, b ≤ k → ¬ cmpS g[k].1 s < 0) →
   ∃ c : Nat, slices_BinarySearchFunc_api_Node_api_Node_string_f141.l0 g s (a : Int) (b : Int) = some (c : Int) ∧ c ≤ g.length ∧ (∀ k : Nat, ∀ h : k < g.length, k < c → cmpS g[k].1 s < 0) ∧ (∀ k : Nat, ∀ h : k < g.length, c ≤ k → ¬ cmpS g[k].1 s < 0) := by
  intro n
  induction n using Nat.strongRecOn with
  | _ n ih =>
   intro a b hn hab hb h1 h2
   rcases Nat.lt_or_ge a b with hlt | hge
   ·have hm : (a + b) / 2 < g.length := by omega
    have hh := half (a := a) (b := b) (by omega) (by omega)
    have hmono : ∀ i j : Nat, ∀ hi : i < g.length, ∀ hj : j < g.length, i < j → cmpS g[i].1 g[j].1 < 0 := fun i j hi hj hij => by
     have := hr i j (by unfold labs; simpa using hj) hij
     rw [labs_get hi, labs_get hj] at this
     exact this
    by_cases hc : cmpS g[(a + b) / 2].1 s < 0
    ·obtain ⟨c, h3, h4⟩ := ih (b - ((a + b) / 2 + 1)) (by omega) ((a + b) / 2 + 1) b rfl (by omega) hb (fun k hk hka => by
      rcases Nat.lt_or_ge k ((a + b) / 2) with h | h
      ·exact cmpS_trans (hmono k _ hk hm h) hc
      ·have : k = (a + b) / 2 := by omega
       subst this; exact hc) h2
     refine ⟨c, (loopX_next ?_).trans h3, h4⟩
     simp only [slices_BinarySearchFunc_api_Node_api_Node_string_f141.s0, cb_dec, hh, rd_lt hm, at1_eq, ob_s]
     rw [if_pos (by omega), ck_in (by omega) (by omega), ck_pos (by omega), if_pos hc, ck_in (by omega) (by omega)]
     rfl
    ·obtain ⟨c, h3, h4⟩ := ih ((a + b) / 2 - a) (by omega) a ((a + b) / 2) rfl (by omega) (by omega) h1 (fun k hk hka => by
      intro h
      rcases Nat.lt_or_ge ((a + b) / 2) k with h5 | h5
      ·exact hc (cmpS_trans (hmono _ k hm hk h5) h)
      ·have : k = (a + b) / 2 := by omega
       subst this; exact hc h)
     refine ⟨c, (loopX_next ?_).trans h3, h4⟩
     simp only [slices_BinarySearchFunc_api_Node_api_Node_string_f141.s0, cb_dec, hh, rd_lt hm, at1_eq, ob_s]
     rw [if_pos (by omega), ck_in (by omega) (by omega), ck_pos (by omega), if_neg hc]
   ·have e : a = b := by omega
    subst e
    refine ⟨a, loopX_done ?_, hb, h1, h2⟩
    simp only [slices_BinarySearchFunc_api_Node_api_Node_string_f141.s0, cb_dec]
    rw [if_neg (by omega)]
 obtain ⟨c, h1, h2, h3, h4⟩ := go _ 0 g.length rfl (Nat.zero_le _) (Nat.le_refl _) (fun k _ h => absurd h (Nat.not_lt_zero _)) (fun k hk h => by omega)
 rw [show ((0 : Nat) : Int) = 0 from rfl] at h1
 unfold graph_at.f slices_BinarySearchFunc_api_Node_api_Node_string_f141.f
 simp only [h1, ob_s, cb_dec]
 by_cases hc : c < g.length
 ·rw [if_pos (by omega), ck_pos (by omega)]
  simp only [rd_lt hc, at1_eq, ob_s]
  by_cases h0 : cmpS g[c].1 s = 0
  ·simp only [h0, decide_true, Bool.not_true, cb_f]
   exact ⟨c, rfl, .inr ⟨c, rfl, hc, (cmpS_eq0 _ _).1 h0⟩⟩
  ·simp only [h0, decide_false, Bool.not_false, cb_t]
   refine ⟨-1, rfl, .inl ⟨rfl, fun k hk e => ?_⟩⟩
   have hz : cmpS g[k].1 s = 0 := (cmpS_eq0 _ _).2 e
   rcases Nat.lt_trichotomy k c with h | h | h
   ·have := h3 k hk h; omega
   ·subst h; exact h0 hz
   ·have h5 := hr c k (by unfold labs; simpa using hk) h
    rw [labs_get hc, labs_get hk, e] at h5
    exact h4 c hc (Nat.le_refl _) h5
 ·rw [if_neg (by omega)]
  simp only [ob_s, Bool.not_false, cb_t]
  refine ⟨-1, rfl, .inl ⟨rfl, fun k hk e => ?_⟩⟩
  have hz : cmpS g[k].1 s = 0 := (cmpS_eq0 _ _).2 e
  have := h3 k hk (by omega)
  omega
noncomputable def posI (g : List Nd) (s : ByteArray) : Int := (graph_at.f g s).getD (-1)
theorem pos_ok {g : List Nd} (hl : g.length ≤ 1000) (hr : Rising (labs g)) (s : ByteArray) : graph_at.f g s = some (posI g s) ∧ ((posI g s = -1 ∧ ∀ k : Nat, ∀ h : k < g.length, g[k].1 ≠ s) ∨ ∃ k : Nat, posI g s = k ∧ ∃ h : k < g.length, g[k].1 = s) := by
 obtain ⟨r, h1, h2⟩ := at_ok hl hr s
 have e : posI g s = r := by unfold posI; rw [h1]; rfl
 rw [e]
 exact ⟨h1, h2⟩
end Go.Proofs.YtafalbofjmfbnaaDoor
