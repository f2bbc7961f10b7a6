/-
  The law WireRangesMatchSpec hands back true for every argument, and leaves its arguments as they were. No condition.
-/
import Derived.Test.YtpeiomhgaembaaaFun
import Derived.Test.YtpeiomhgaembaaaTypB
import Derived.Test.YtpeiomhgaembaaaRows
set_option linter.unusedVariables false
set_option linter.unusedSimpArgs false
namespace Go.Proofs.Ytpeiomhgaembaaa
open Go Go.Proofs.Ytpeiomhgaembaaa.Eng
theorem within_eq (a b c : Int) : wire_within.f a b c = some (decide (b ≤ a ∧ a ≤ c)) := by
 unfold wire_within.f
 rw [cb_dec]
 by_cases h : b ≤ a <;> simp [h]
theorem within8_eq (a b c : Int) : ref8_within.f a b c = some (decide (b ≤ a ∧ a ≤ c)) := by
 unfold ref8_within.f
 rw [cb_dec]
 by_cases h : b ≤ a <;> simp [h]
theorem cloneSp {l : List Sp} (h : l.length * 16 ≤ 140737488355328) : slices_Clone_api_Span_api_Span.f l = some l ∧ slices_Clone_api_Span_api_Span_o.f l = some l := by
 unfold slices_Clone_api_Span_api_Span.f slices_Clone_api_Span_api_Span_o.f
 by_cases he : l = []
 ·subst he
  rw [ck_pos (by simp)]
  exact ⟨nq_same, nq_same⟩
 ·unfold nq
  rw [if_pos he, ck_pos (by simp; omega)]
  exact ⟨rfl, rfl⟩
def okSp (size : Int) (x : Sp) : Prop := 0 ≤ x.1 ∧ x.1 ≤ size ∧ x.1 ≤ x.2 ∧ x.2 ≤ size
theorem chkLoop (size : Int) (l : List Sp) (hl : l.length ≤ 20000) (o : List Bool) : ∀ (n k : Nat), l.length - k = n → k ≤ l.length →
  (wire_Ranges.l0 size l (l.length : Int) (k : Int) = some (.inl ([], 1)) ∧ ref8_Ranges.l0 size l (l.length : Int) (k : Int) o = some (.inl ([], 1))) ∨
  (wire_Ranges.l0 size l (l.length : Int) (k : Int) = some (.inr ()) ∧ ref8_Ranges.l0 size l (l.length : Int) (k : Int) o = some (.inr o) ∧ ∀ x ∈ l.drop k, okSp size x) := by
 intro n
 induction n with
 | zero =>
  intro k hn hk
  obtain rfl : k = l.length := by omega
  refine .inr ⟨loopX_done ?_, loopX_done ?_, fun x hx => by rw [List.drop_length] at hx; cases hx⟩
  ·simp only [wire_Ranges.s0, cb_dec]; rw [if_neg (by omega)]
  ·simp only [ref8_Ranges.s0, cb_dec]; rw [if_neg (by omega)]
 | succ n ih =>
  intro k hn hk
  have hlt : k < l.length := by omega
  have hx1 : InR ((k : Int) + 1) := by unfold InR; omega
  by_cases h1 : 0 ≤ l[k].1 ∧ l[k].1 ≤ size
  ·by_cases h2 : l[k].1 ≤ l[k].2 ∧ l[k].2 ≤ size
   ·have s1 : wire_Ranges.s0 size l (l.length : Int) (k : Int) = some (.inl ((k : Int) + 1)) := by
     simp only [wire_Ranges.s0, cb_dec, cb_not, rd_lt hlt, within_eq, ob_s]
     rw [if_pos (by omega), ck_pos (by omega), if_pos h1, if_pos h2, ck_pos hx1]
    have s2 : ref8_Ranges.s0 size l (l.length : Int) (k : Int) o = some (.inl ((k : Int) + 1, o)) := by
     simp only [ref8_Ranges.s0, cb_dec, cb_not, rd_lt hlt, within8_eq, ob_s]
     rw [if_pos (by omega), ck_pos (by omega), if_pos h1, if_pos h2, ck_pos hx1]
    rcases ih (k + 1) (by omega) (by omega) with ⟨h3, h4⟩ | ⟨h3, h4, h5⟩
    ·exact .inl ⟨(loopX_next s1).trans h3, (loopX_next s2).trans h4⟩
    ·refine .inr ⟨(loopX_next s1).trans h3, (loopX_next s2).trans h4, fun x hx => ?_⟩
     rw [List.drop_eq_getElem_cons hlt] at hx
     rcases List.mem_cons.1 hx with rfl | hx
     ·exact ⟨h1.1, h1.2, h2.1, h2.2⟩
     ·exact h5 x hx
   ·refine .inl ⟨loopX_done ?_, loopX_done ?_⟩
    ·simp only [wire_Ranges.s0, cb_dec, cb_not, rd_lt hlt, within_eq, ob_s]
     rw [if_pos (by omega), ck_pos (by omega), if_pos h1, if_neg h2]
    ·simp only [ref8_Ranges.s0, cb_dec, cb_not, rd_lt hlt, within8_eq, ob_s]
     rw [if_pos (by omega), ck_pos (by omega), if_pos h1, if_neg h2]
  ·refine .inl ⟨loopX_done ?_, loopX_done ?_⟩
   ·simp only [wire_Ranges.s0, cb_dec, cb_not, rd_lt hlt, within_eq, ob_s]
    rw [if_pos (by omega), ck_pos (by omega), if_neg h1]
   ·simp only [ref8_Ranges.s0, cb_dec, cb_not, rd_lt hlt, within8_eq, ob_s]
    rw [if_pos (by omega), ck_pos (by omega), if_neg h1]
theorem outLoop (size : Int) (M o1 : List Sp) (hM : M.length ≤ 20001) : ∀ (n k : Nat) (a : Int) (o : List Sp), M.length - k = n → k ≤ M.length → o.length ≤ k →
  wire_Ranges.l1 size (M.length : Int) a (k : Int) M o1 o = some (M, o1, o ++ outW size a (M.drop k)) := by
 intro n
 induction n with
 | zero =>
  intro k a o hn hk ho
  obtain rfl : k = M.length := by omega
  refine loopX_done ?_
  simp only [wire_Ranges.s1, cb_dec]
  rw [if_neg (by omega), List.drop_length]
  simp [outW]
 | succ n ih =>
  intro k a o hn hk ho
  have hlt : k < M.length := by omega
  have hx1 : InR ((k : Int) + 1) := by unfold InR; omega
  have ek : Int.toNat (k : Int) = k := by omega
  have eg : List.getD M k ((0 : Int), (0 : Int)) = M[k] := by rw [List.getD, List.getElem?_eq_getElem hlt]; rfl
  have hx2 : (o.length + [(a, M[k].1)].length) * 16 ≤ 140737488355328 := by simp only [List.length_cons, List.length_nil]; omega
  rw [List.drop_eq_getElem_cons hlt]
  by_cases h1 : a < M[k].1
  ·by_cases h2 : M[k].1 < M[k].2
   ·have h3 := ih (k + 1) (max a M[k].2) (o ++ [(a, M[k].1)]) (by omega) (by omega) (by simp; omega)
    refine (loopX_next ?_).trans (h3.trans ?_)
    ·simp only [wire_Ranges.s1, cb_dec, ek, eg]
     rw [if_pos (by omega), ck_pos (by omega), ck_pos (by omega), if_pos h1, ck_pos hx2, if_pos h2, ck_pos hx1]
     rfl
    ·simp only [outW]; rw [if_pos h1, if_pos h2]; simp
   ·by_cases h3 : M[k].1 = size
    ·refine loopX_done ?_
     simp only [wire_Ranges.s1, cb_dec, ek, eg]
     rw [if_pos (by omega), ck_pos (by omega), ck_pos (by omega), if_pos h1, ck_pos hx2, if_neg h2, if_pos h3]
     simp only [outW]; rw [if_pos h1, if_neg h2, if_pos h3]; simp
    ·have h4 := ih (k + 1) a (o ++ [(a, M[k].1)]) (by omega) (by omega) (by simp; omega)
     refine (loopX_next ?_).trans (h4.trans ?_)
     ·simp only [wire_Ranges.s1, cb_dec, ek, eg]
      rw [if_pos (by omega), ck_pos (by omega), ck_pos (by omega), if_pos h1, ck_pos hx2, if_neg h2, if_neg h3, ck_pos hx1]
      rfl
     ·simp only [outW]; rw [if_pos h1, if_neg h2, if_neg h3]; simp
  ·by_cases h2 : M[k].1 < M[k].2
   ·have h3 := ih (k + 1) (max a M[k].2) o (by omega) (by omega) (by omega)
    refine (loopX_next ?_).trans (h3.trans ?_)
    ·simp only [wire_Ranges.s1, cb_dec, ek, eg]
     rw [if_pos (by omega), ck_pos (by omega), ck_pos (by omega), if_neg h1, if_pos h2, ck_pos hx1]
     rfl
    ·simp only [outW]; rw [if_neg h1, if_pos h2]; simp
   ·by_cases h3 : M[k].1 = size
    ·refine loopX_done ?_
     simp only [wire_Ranges.s1, cb_dec, ek, eg]
     rw [if_pos (by omega), ck_pos (by omega), ck_pos (by omega), if_neg h1, if_neg h2, if_pos h3]
     simp only [outW]; rw [if_neg h1, if_neg h2, if_pos h3]; simp
    ·have h4 := ih (k + 1) a o (by omega) (by omega) (by omega)
     refine (loopX_next ?_).trans (h4.trans ?_)
     ·simp only [wire_Ranges.s1, cb_dec, ek, eg]
      rw [if_pos (by omega), ck_pos (by omega), ck_pos (by omega), if_neg h1, if_neg h2, if_neg h3, ck_pos hx1]
      rfl
     ·simp only [outW]; rw [if_neg h1, if_neg h2, if_neg h3]; simp
theorem joinLoop (l : List Sp) (hl : l.length ≤ 1000000) : ∀ (n k : Nat) (p : List Sp) (c : Sp), l.length - k = n → k ≤ l.length → p.length + 1 ≤ k →
  wire_joined.l0 l (l.length : Int) (k : Int) (p ++ [c]) = some (p ++ joinF c (l.drop k)) := by
 intro n
 induction n with
 | zero =>
  intro k p c hn hk hp
  obtain rfl : k = l.length := by omega
  refine loopX_done ?_
  simp only [wire_joined.s0, cb_dec]
  rw [if_neg (by omega), List.drop_length]
  rfl
 | succ n ih =>
  intro k p c hn hk hp
  have hlt : k < l.length := by omega
  have hx1 : InR ((k : Int) + 1) := by unfold InR; omega
  have hlen : ((p ++ [c]).length : Int) - 1 = (p.length : Int) := by simp
  have et : Int.toNat (p.length : Int) = p.length := by omega
  have eg : List.getD (p ++ [c]) p.length ((0 : Int), (0 : Int)) = c := by simp [List.getD]
  have es : ∀ v, List.set (p ++ [c]) p.length v = p ++ [v] := fun v => by rw [List.set_append_right _ _ (Nat.le_refl _)]; simp
  have hpl : p.length < (p ++ [c]).length := by simp
  have hpi : 0 ≤ (p.length : Int) ∧ (p.length : Int) < ((p ++ [c]).length : Int) := by omega
  have hx2 : ((p ++ [c]).length + [l[k]].length) * 16 ≤ 140737488355328 := by simp only [List.length_append, List.length_cons, List.length_nil]; omega
  rw [List.drop_eq_getElem_cons hlt]
  by_cases h : l[k].1 ≤ c.2
  ·have h1 := ih (k + 1) p (c.1, max c.2 l[k].2) (by omega) (by omega) (by omega)
   refine (loopX_next ?_).trans (h1.trans ?_)
   ·simp only [wire_joined.s0, cb_dec, rd_lt hlt, hlen, et, eg, es]
    rw [if_pos (by omega), ck_pos (by omega), ck_in (by omega) (by omega), if_pos (by omega), ck_pos hpi, ck_pos hpl, if_pos h, ck_pos hpi, ck_pos hpl, ck_pos hpi, ck_pos hpl, ck_pos hx1]
    rfl
   ·simp only [joinF]; rw [if_pos h]
  ·have h1 := ih (k + 1) (p ++ [c]) l[k] (by omega) (by omega) (by simp; omega)
   refine (loopX_next ?_).trans (h1.trans ?_)
   ·simp only [wire_joined.s0, cb_dec, rd_lt hlt, hlen, et, eg, es]
    rw [if_pos (by omega), ck_pos (by omega), ck_in (by omega) (by omega), if_pos (by omega), ck_pos hpi, ck_pos hpl, if_neg h, ck_pos hx2, ck_pos hx1]
    rfl
   ·simp only [joinF]; rw [if_neg h]; simp
theorem joined_eq (l : List Sp) (hl : l.length ≤ 1000000) : wire_joined.f l = some (joinA l) := by
 unfold wire_joined.f
 have h : wire_joined.l0 l (l.length : Int) 0 [] = some (joinA l) := by
  cases l with
  | nil =>
   refine loopX_done ?_
   simp only [wire_joined.s0, cb_dec]
   rfl
  | cons x l =>
   have h1 := joinLoop (x :: l) hl l.length 1 [] x (by simp) (by simp) (by simp)
   rw [List.nil_append, show ((1 : Nat) : Int) = 1 from rfl] at h1
   refine (loopX_next ?_).trans (h1.trans rfl)
   have hr : rd ((0 : Int), (0 : Int)) (x :: l) 0 = x := rfl
   simp only [wire_joined.s0, cb_dec, hr, List.length_nil, List.length_cons] at hl ⊢
   rw [if_pos (by omega), ck_pos (by omega), ck_in (by omega) (by omega), if_neg (by omega), ck_pos (by omega), ck_in (by omega) (by omega)]
   rfl
 simp only [h, ob_s]
end Go.Proofs.Ytpeiomhgaembaaa
set_option linter.unusedVariables false
set_option linter.unusedSimpArgs false
namespace Go.Proofs.Ytpeiomhgaembaaa
open Go Go.Proofs.Ytpeiomhgaembaaa.Eng
theorem ck_dec {β : Type} {c : Prop} [h : Decidable c] {a : Option β} : ck c a = if c then a else none := by
 by_cases hc : c
 ·rw [ck_pos hc, if_pos hc]
 ·rw [if_neg hc]; unfold ck; rw [if_neg hc]
instance inR_dec (x : Int) : Decidable (InR x) := by unfold InR; infer_instance
theorem starts_awake : wire_Starts.f ((2 : Int), (10 : Int)) [((0 : Int), (8 : Int)), ((0 : Int), (8 : Int))] = some ([0, 3], 0) := by
 have q : wire_CheckQuota.f ((2 : Int), (10 : Int)) = some 0 := by
  simp only [wire_CheckQuota.f, within_eq, ob_s]; rfl
 have l0 : wire_Starts.l0 [((0 : Int), (8 : Int)), ((0 : Int), (8 : Int))] ((2 : Int), (10 : Int)) [((0 : Int), (8 : Int)), ((0 : Int), (8 : Int))] 2 0 = some (.inr ()) := by
  refine (loopX_next (x' := 1) ?_).trans ((loopX_next (x' := 2) ?_).trans (loopX_done ?_))
  ·simp only [wire_Starts.s0, ck_dec, within_eq, ob_s]; rfl
  ·simp only [wire_Starts.s0, ck_dec, within_eq, ob_s]; rfl
  ·simp only [wire_Starts.s0, ck_dec, within_eq, ob_s]; rfl
 have l1 : wire_Starts.l1 ((2 : Int), (10 : Int)) [((0 : Int), (8 : Int)), ((0 : Int), (8 : Int))] 2 0 10 0 [] = some (3, [0, 3]) := by
  refine (loopX_next (x' := (0, 2, 1, [0])) ?_).trans ((loopX_next (x' := (3, 0, 2, [0, 3])) ?_).trans (loopX_done ?_))
  ·simp only [wire_Starts.s1, ck_dec]; rfl
  ·simp only [wire_Starts.s1, ck_dec]; rfl
  ·simp only [wire_Starts.s1, ck_dec]; rfl
 unfold wire_Starts.f
 rw [q, ob_s]
 show ob (wire_Starts.l0 [((0 : Int), (8 : Int)), ((0 : Int), (8 : Int))] ((2 : Int), (10 : Int)) [((0 : Int), (8 : Int)), ((0 : Int), (8 : Int))] 2 0) _ = _
 rw [l0, ob_s, caseS_r]
 show ob (wire_Starts.l1 ((2 : Int), (10 : Int)) [((0 : Int), (8 : Int)), ((0 : Int), (8 : Int))] 2 0 10 0 []) _ = _
 rw [l1, ob_s]
 rfl
theorem awake_eq : law8_awake.f = some true := by
 unfold law8_awake.f
 rw [starts_awake, ob_s]
 simp only [ck_dec]
 rfl
noncomputable def missW (size : Int) (l : List Sp) : List Sp := joinA (outW size 0 ((Option.getD (srt_42_43_run l) []) ++ [(size, size)]))
theorem srt_some {l : List Sp} (hl : l.length ≤ 1000000) (h : ∀ x ∈ l, 0 ≤ x.1 ∧ x.1 ≤ 2000000000) : ∃ m, srt_42_43_run l = some m ∧ m.Perm l ∧ m.Pairwise (fun x y => x.1 ≤ y.1) := by
 refine ⟨sortB l h, ?_, sortB_ok l h⟩
 unfold srt_42_43_run
 rw [dif_pos h, if_pos hl]
theorem missW_ok {size : Int} (h0 : 0 ≤ size) (h1 : size ≤ 2000000) {l : List Sp} (hl : l.length ≤ 20000) (hv : ∀ x ∈ l, okSp size x) : NF (missW size l) ∧ (∀ i, covS (missW size l) i ↔ 0 ≤ i ∧ i < size ∧ ¬ covS l i) ∧ (missW size l).length ≤ 20002 := by
 obtain ⟨m, h2, h3, h4⟩ := srt_some (l := l) (by omega) (fun x hx => by have := hv x hx; exact ⟨this.1, by have := this.2.1; omega⟩)
 unfold missW
 rw [h2, Option.getD_some]
 have hm : ∀ x ∈ m, x.1 ≤ x.2 ∧ x.2 ≤ size := fun x hx => by
  have := hv x (h3.mem_iff.1 hx)
  exact ⟨this.2.2.1, this.2.2.2⟩
 obtain ⟨g1, g2, g3⟩ := joinA_ok (outW_nd size (m ++ [(size, size)]) 0)
 refine ⟨g1, fun i => ?_, ?_⟩
 ·rw [g2 i, outW_cov m 0 hm h4 i, covS_perm h3 i]
 ·have := outW_len size (m ++ [(size, size)]) 0
  have h5 := h3.length_eq
  simp only [List.length_append, List.length_cons, List.length_nil] at this
  omega
def thereP (l : List Sp) (size : Int) (t : List Bool) : Prop := t.length = size.toNat ∧ ∀ i : Nat, i < t.length → (List.getD t i false = true ↔ covS l i)
theorem fillLoop (x : Sp) (size : Int) (hx : okSp size x) (hs : size ≤ 2000000) : ∀ (n k : Nat) (t : List Bool) (P : Nat → Prop), (x.2 - k).toNat = n → (k : Int) ≤ x.2 → x.1 ≤ k → t.length = size.toNat → (∀ i : Nat, i < t.length → (List.getD t i false = true ↔ P i ∨ (x.1 ≤ (i : Int) ∧ (i : Int) < k))) →
  ∃ t', ref8_Ranges.l2 x (k : Int) t = some t' ∧ t'.length = size.toNat ∧ ∀ i : Nat, i < t'.length → (List.getD t' i false = true ↔ P i ∨ (x.1 ≤ (i : Int) ∧ (i : Int) < x.2)) := by
 obtain ⟨v1, v2, v3, v4⟩ := hx
 intro n
 induction n with
 | zero =>
  intro k t P hn hk hk1 hl ht
  have e : (k : Int) = x.2 := by omega
  refine ⟨t, loopX_done ?_, hl, by rw [← e]; exact ht⟩
  simp only [ref8_Ranges.s2, cb_dec]
  rw [if_neg (by omega)]
 | succ n ih =>
  intro k t P hn hk hk1 hl ht
  have hlt : k < t.length := by omega
  have ek : Int.toNat (k : Int) = k := by omega
  obtain ⟨t', h1, h2, h3⟩ := ih (k + 1) (List.set t k true) P (by omega) (by omega) (by omega) (by simpa using hl) (fun i hi => by
   have hi' : i < t.length := by simpa using hi
   by_cases hik : i = k
   ·subst hik
    have : List.getD (List.set t i true) i false = true := by rw [List.getD, List.getElem?_set_self hlt]; rfl
    rw [this]
    exact ⟨fun _ => .inr ⟨hk1, by omega⟩, fun _ => rfl⟩
   ·have : List.getD (List.set t k true) i false = List.getD t i false := by rw [List.getD, List.getD, List.getElem?_set_ne (fun e => hik e.symm)]
    rw [this, ht i hi']
    constructor
    ·rintro (h | h)
     ·exact .inl h
     ·exact .inr ⟨h.1, by omega⟩
    ·rintro (h | h)
     ·exact .inl h
     ·exact .inr ⟨h.1, by omega⟩)
  refine ⟨t', (loopX_next ?_).trans h1, h2, h3⟩
  simp only [ref8_Ranges.s2, cb_dec, ek]
  rw [if_pos (by omega), ck_pos (by omega), ck_pos hlt, ck_in (by omega) (by omega)]
  rfl
theorem thereLoop (size : Int) (hs : size ≤ 2000000) (l : List Sp) (hl : l.length ≤ 20000) (hv : ∀ x ∈ l, okSp size x) : ∀ (n k : Nat) (t : List Bool), l.length - k = n → k ≤ l.length → thereP (l.take k) size t → ∃ t', ref8_Ranges.l1 l (l.length : Int) (k : Int) t = some t' ∧ thereP l size t' := by
 intro n
 induction n with
 | zero =>
  intro k t hn hk ht
  obtain rfl : k = l.length := by omega
  rw [List.take_length] at ht
  refine ⟨t, loopX_done ?_, ht⟩
  simp only [ref8_Ranges.s1, cb_dec]
  rw [if_neg (by omega)]
 | succ n ih =>
  intro k t hn hk ht
  have hlt : k < l.length := by omega
  have hx := hv l[k] (List.getElem_mem hlt)
  obtain ⟨f, hf⟩ := Int.eq_ofNat_of_zero_le hx.1
  obtain ⟨t1, h1, h2, h3⟩ := fillLoop l[k] size hx hs _ f t (fun i => covS (l.take k) i) rfl (by have := hx.2.2.1; omega) (by omega) ht.1 (fun i hi => by
   rw [ht.2 i hi]
   exact ⟨.inl, fun h => h.elim id (fun h => by omega)⟩)
  obtain ⟨t', h4, h5⟩ := ih (k + 1) t1 (by omega) (by omega) ⟨h2, fun i hi => by
   rw [h3 i hi, List.take_succ_eq_append_getElem hlt, covS_app, covS_one]⟩
  refine ⟨t', (loopX_next ?_).trans h4, h5⟩
  have h1' : ref8_Ranges.l2 l[k] l[k].1 t = some t1 := by rw [hf]; exact h1
  simp only [ref8_Ranges.s1, cb_dec, rd_lt hlt, h1', ob_s]
  rw [if_pos (by omega), ck_pos (by omega), ck_in (by omega) (by omega)]
  rfl
structure soFar (l : List Sp) (k : Nat) (o : List Sp) : Prop where
 nf : NF o
 le : ∀ x ∈ o, x.2 ≤ (k : Int)
 cov : ∀ i, covS o i ↔ 0 ≤ i ∧ i < (k : Int) ∧ ¬ covS l i
theorem soFar_skip {l : List Sp} {k : Nat} {o : List Sp} (h : soFar l k o) (hc : covS l k) : soFar l (k + 1) o :=
 ⟨h.nf, fun x hx => by have := h.le x hx; omega, fun i => by
  rw [h.cov i]
  constructor
  ·rintro ⟨h1, h2, h3⟩; exact ⟨h1, by omega, h3⟩
  ·rintro ⟨h1, h2, h3⟩
   refine ⟨h1, ?_, h3⟩
   rcases Int.lt_or_le i k with h4 | h4
   ·exact h4
   ·have : i = k := by omega
    exact absurd (this ▸ hc) h3⟩
theorem soFar_new {l : List Sp} {k : Nat} {o : List Sp} (h : soFar l k o) (hc : ¬ covS l k) (hlast : ∀ x, o.getLast? = some x → x.2 ≠ k) : soFar l (k + 1) (o ++ [((k : Int), (k : Int) + 1)]) := by
 have hlt : ∀ x ∈ o, x.2 < (k : Int) := fun x hx => by
  have h1 := h.le x hx
  rcases Int.lt_or_le x.2 k with h2 | h2
  ·exact h2
  ·exfalso
   have he : x.2 = k := by omega
   have hne : o ≠ [] := by rintro rfl; cases hx
   obtain ⟨p, c, rfl⟩ : ∃ p c, o = p ++ [c] := ⟨o.dropLast, o.getLast hne, (List.dropLast_concat_getLast hne).symm⟩
   have hcl := hlast c (by simp)
   rcases List.mem_append.1 hx with hx | hx
   ·have h3 := (List.pairwise_append.1 h.nf.ord).2.2 x hx c (by simp)
    have h4 := h.nf.all c (by simp)
    have h5 := h.le c (by simp)
    omega
   ·obtain rfl := List.mem_singleton.1 hx
    exact hcl he
 refine ⟨⟨fun x hx => ?_, List.pairwise_append.2 ⟨h.nf.ord, List.pairwise_singleton .., fun x hx y hy => ?_⟩⟩, fun x hx => ?_, fun i => ?_⟩
 ·rcases List.mem_append.1 hx with hx | hx
  ·exact h.nf.all x hx
  ·obtain rfl := List.mem_singleton.1 hx
   exact ⟨by show (0 : Int) ≤ k; omega, by show (k : Int) < k + 1; omega⟩
 ·obtain rfl := List.mem_singleton.1 hy
  exact hlt x hx
 ·rcases List.mem_append.1 hx with hx | hx
  ·have := h.le x hx; omega
  ·obtain rfl := List.mem_singleton.1 hx
   show (k : Int) + 1 ≤ _
   omega
 ·rw [covS_app, covS_one, h.cov i]
  constructor
  ·rintro (⟨h1, h2, h3⟩ | ⟨h1, h2⟩)
   ·exact ⟨h1, by omega, h3⟩
   ·have h1' : (k : Int) ≤ i := h1
    have h2' : i < (k : Int) + 1 := h2
    have : i = k := by omega
    exact ⟨by omega, by omega, by rw [this]; exact hc⟩
  ·rintro ⟨h1, h2, h3⟩
   rcases Int.lt_or_le i k with h4 | h4
   ·exact .inl ⟨h1, h4, h3⟩
   ·exact .inr ⟨h4, by show i < (k : Int) + 1; omega⟩
theorem soFar_grow {l : List Sp} {k : Nat} {p : List Sp} {c : Sp} (h : soFar l k (p ++ [c])) (hc : ¬ covS l k) (he : c.2 = k) : soFar l (k + 1) (p ++ [(c.1, (k : Int) + 1)]) := by
 obtain ⟨o1, o2, o3⟩ := List.pairwise_append.1 h.nf.ord
 have hca := h.nf.all c (by simp)
 refine ⟨⟨fun x hx => ?_, List.pairwise_append.2 ⟨o1, List.pairwise_singleton .., fun x hx y hy => ?_⟩⟩, fun x hx => ?_, fun i => ?_⟩
 ·rcases List.mem_append.1 hx with hx | hx
  ·exact h.nf.all x (List.mem_append_left _ hx)
  ·obtain rfl := List.mem_singleton.1 hx
   exact ⟨hca.1, by show c.1 < (k : Int) + 1; omega⟩
 ·obtain rfl := List.mem_singleton.1 hy
  exact o3 x hx c (by simp)
 ·rcases List.mem_append.1 hx with hx | hx
  ·have := h.le x (List.mem_append_left _ hx); omega
  ·obtain rfl := List.mem_singleton.1 hx
   show (k : Int) + 1 ≤ _
   omega
 ·have hcov := h.cov i
  rw [covS_app, covS_one] at hcov
  rw [covS_app, covS_one]
  constructor
  ·rintro (h1 | ⟨h1, h2⟩)
   ·have := hcov.1 (.inl h1); exact ⟨this.1, by omega, this.2.2⟩
   ·have h1' : c.1 ≤ i := h1
    have h2' : i < (k : Int) + 1 := h2
    rcases Int.lt_or_le i k with h4 | h4
    ·have := hcov.1 (.inr ⟨h1', by omega⟩); exact ⟨this.1, by omega, this.2.2⟩
    ·have : i = k := by omega
     exact ⟨by omega, by omega, by rw [this]; exact hc⟩
  ·rintro ⟨h1, h2, h3⟩
   rcases Int.lt_or_le i k with h4 | h4
   ·rcases hcov.2 ⟨h1, h4, h3⟩ with h5 | h5
    ·exact .inl h5
    ·exact .inr ⟨h5.1, by show i < (k : Int) + 1; omega⟩
   ·exact .inr ⟨by show c.1 ≤ i; omega, by show i < (k : Int) + 1; omega⟩
theorem runLoop (size : Int) (hs : size ≤ 2000000) (h0 : 0 ≤ size) (l : List Sp) (t : List Bool) (ht : thereP l size t) : ∀ (n k : Nat) (o : List Sp), size.toNat - k = n → k ≤ size.toNat → o.length ≤ k → soFar l k o → ∃ o', ref8_Ranges.l3 size (k : Int) t o = some (t, o') ∧ soFar l size.toNat o' := by
 intro n
 induction n with
 | zero =>
  intro k o hn hk ho h
  obtain rfl : k = size.toNat := by omega
  refine ⟨o, loopX_done ?_, h⟩
  simp only [ref8_Ranges.s3, cb_dec]
  rw [if_neg (by omega)]
 | succ n ih =>
  intro k o hn hk ho h
  have hlt : k < t.length := by rw [ht.1]; omega
  have ek : Int.toNat (k : Int) = k := by omega
  have hx1 : InR ((k : Int) + 1) := by unfold InR; omega
  have hk1 : (k : Int) < size := by omega
  by_cases hc : List.getD t k false = true
  ·obtain ⟨o', h1, h2⟩ := ih (k + 1) o (by omega) (by omega) (by omega) (soFar_skip h ((ht.2 k hlt).1 hc))
   refine ⟨o', (loopX_next ?_).trans h1, h2⟩
   simp only [ref8_Ranges.s3, cb_dec, ek, hc, cb_t]
   rw [if_pos hk1, ck_pos (by omega), ck_pos hlt, ck_pos hx1]
   rfl
  ·have hnc : ¬ covS l k := fun h' => hc ((ht.2 k hlt).2 h')
   have hcf : List.getD t k false = false := by simpa using hc
   have hx2 : (o.length + [((k : Int), (k : Int) + 1)].length) * 16 ≤ 140737488355328 := by simp only [List.length_cons, List.length_nil]; omega
   by_cases hne : o = []
   ·subst hne
    obtain ⟨o', h1, h2⟩ := ih (k + 1) ([] ++ [((k : Int), (k : Int) + 1)]) (by omega) (by omega) (by simp) (soFar_new h hnc (fun x hx => by cases hx))
    refine ⟨o', (loopX_next ?_).trans h1, h2⟩
    simp only [ref8_Ranges.s3, cb_dec, ek, hcf, cb_f]
    rw [if_pos hk1, ck_pos (by omega), ck_pos hlt, if_neg (by simp), ck_pos hx1, ck_pos hx2, ck_pos hx1]
    rfl
   ·obtain ⟨p, c, rfl⟩ : ∃ p c, o = p ++ [c] := ⟨o.dropLast, o.getLast hne, (List.dropLast_concat_getLast hne).symm⟩
    have hlen : ((p ++ [c]).length : Int) - 1 = (p.length : Int) := by simp
    have et : Int.toNat (p.length : Int) = p.length := by omega
    have eg : List.getD (p ++ [c]) p.length ((0 : Int), (0 : Int)) = c := by simp [List.getD]
    have es : ∀ v, List.set (p ++ [c]) p.length v = p ++ [v] := fun v => by rw [List.set_append_right _ _ (Nat.le_refl _)]; simp
    have hpl : p.length < (p ++ [c]).length := by simp
    have hpi : 0 ≤ (p.length : Int) ∧ (p.length : Int) < ((p ++ [c]).length : Int) := by omega
    have hpi2 : InR (p.length : Int) := by
     have : (p ++ [c]).length ≤ k := ho
     unfold InR; omega
    have hpos : (0 : Int) < ((p ++ [c]).length : Int) := by omega
    by_cases he : c.2 = (k : Int)
    ·obtain ⟨o', h1, h2⟩ := ih (k + 1) (p ++ [(c.1, (k : Int) + 1)]) (by omega) (by omega) (by simp at ho ⊢; omega) (soFar_grow h hnc he)
     refine ⟨o', (loopX_next ?_).trans h1, h2⟩
     simp only [ref8_Ranges.s3, cb_dec, ek, hcf, cb_f, hlen, et, eg, es]
     rw [if_pos hk1, ck_pos (by omega), ck_pos hlt, if_pos hpos, ck_pos hpi2, ck_pos hpi, ck_pos hpl, if_pos he, ck_pos hpi2, ck_pos hx1, ck_pos hpi, ck_pos hpl, ck_pos hx1]
     rfl
    ·obtain ⟨o', h1, h2⟩ := ih (k + 1) ((p ++ [c]) ++ [((k : Int), (k : Int) + 1)]) (by omega) (by omega) (by simp at ho ⊢; omega) (soFar_new h hnc (fun x hx => by simp at hx; rw [← hx]; exact he))
     refine ⟨o', (loopX_next ?_).trans h1, h2⟩
     simp only [ref8_Ranges.s3, cb_dec, ek, hcf, cb_f, hlen, et, eg, es]
     rw [if_pos hk1, ck_pos (by omega), ck_pos hlt, if_pos hpos, ck_pos hpi2, ck_pos hpi, ck_pos hpl, if_neg he, ck_pos hx1, ck_pos hx2, ck_pos hx1]
     rfl
theorem chkAll (size : Int) (l : List Sp) (hl : l.length ≤ 20000) (hv : ∀ x ∈ l, okSp size x) : ∀ (n k : Nat), l.length - k = n → k ≤ l.length → wire_Ranges.l0 size l (l.length : Int) (k : Int) = some (.inr ()) := by
 intro n
 induction n with
 | zero =>
  intro k hn hk
  refine loopX_done ?_
  simp only [wire_Ranges.s0, cb_dec]
  rw [if_neg (by omega)]
 | succ n ih =>
  intro k hn hk
  have hlt : k < l.length := by omega
  obtain ⟨h1, h2, h3, h4⟩ := hv l[k] (List.getElem_mem hlt)
  refine (loopX_next ?_).trans (ih (k + 1) (by omega) (by omega))
  simp only [wire_Ranges.s0, cb_dec, cb_not, rd_lt hlt, within_eq, ob_s]
  rw [if_pos (by omega), ck_pos (by omega), if_pos ⟨h1, h2⟩, if_pos ⟨h3, h4⟩, ck_in (by omega) (by omega)]
  rfl
theorem ranges_eq (size : Int) (l : List Sp) : ∃ r, wire_Ranges.f size l = some r ∧ ref8_Ranges.f size l = some r ∧ (r.2 ≠ 0 → r.1 = []) ∧ (r.2 = 0 → 0 ≤ size ∧ size ≤ 2000000 ∧ l.length ≤ 20000 ∧ (∀ x ∈ l, okSp size x) ∧ NF r.1 ∧ (∀ i, covS r.1 i ↔ 0 ≤ i ∧ i < size ∧ ¬ covS l i) ∧ r.1.length ≤ 20002) ∧ (r.2 ≠ 0 → 0 ≤ size → size ≤ 2000000 → (∀ x ∈ l, okSp size x) → r.2 = 2) := by
 have bad : ∀ (c : Int) (h : ¬ (0 ≤ size ∧ size ≤ 2000000 ∧ ∀ x ∈ l, okSp size x) ∨ c = 2), c ≠ 0 → ∃ r, some (([] : List Sp), c) = some r ∧ some (([] : List Sp), c) = some r ∧ (r.2 ≠ 0 → r.1 = []) ∧ (r.2 = 0 → 0 ≤ size ∧ size ≤ 2000000 ∧ l.length ≤ 20000 ∧ (∀ x ∈ l, okSp size x) ∧ NF r.1 ∧ (∀ i, covS r.1 i ↔ 0 ≤ i ∧ i < size ∧ ¬ covS l i) ∧ r.1.length ≤ 20002) ∧ (r.2 ≠ 0 → 0 ≤ size → size ≤ 2000000 → (∀ x ∈ l, okSp size x) → r.2 = 2) := fun c h hc =>
  ⟨_, rfl, rfl, fun _ => rfl, fun h0 => absurd h0 hc, fun _ h1 h2 h3 => h.elim (fun h => absurd ⟨h1, h2, h3⟩ h) id⟩
 unfold wire_Ranges.f ref8_Ranges.f
 simp only [within_eq, within8_eq, ob_s, cb_not, cb_dec]
 by_cases hsz : 0 ≤ size ∧ size ≤ 2000000
 ·simp only [if_pos hsz]
  by_cases hl : (20000 : Int) < (l.length : Int)
  ·simp only [if_pos hl]; exact bad 2 (.inr rfl) (by decide)
  ·simp only [if_neg hl]
   rw [ck_pos (show 0 ≤ size ∧ size * 1 ≤ 140737488355328 by omega)]
   have h1 := chkLoop size l (by omega) (List.replicate (Int.toNat size) false) l.length 0 (by omega) (by omega)
   rw [show ((0 : Nat) : Int) = 0 from rfl, List.drop_zero] at h1
   have hv8 : (∀ x ∈ l, okSp size x) ∨ ¬ ∀ x ∈ l, okSp size x := Classical.em _
   rcases h1 with ⟨h2, h3⟩ | ⟨h2, h3, hv⟩
   ·rw [h2, h3]
    simp only [ob_s, caseS_l]
    refine bad 1 (.inl fun ⟨_, _, hv⟩ => ?_) (by decide)
    have h4 := chkAll size l (by omega) hv l.length 0 (by omega) (by omega)
    rw [show ((0 : Nat) : Int) = 0 from rfl] at h4
    rw [h4] at h2
    cases h2
   ·rw [h2, h3]
    simp only [ob_s, caseS_r]
    obtain ⟨m, g1, g2, g3⟩ := srt_some (l := l) (by omega) (fun x hx => by have := hv x hx; exact ⟨this.1, by have := this.2.1; omega⟩)
    have hml := g2.length_eq
    rw [(cloneSp (by omega)).2, ob_s]
    have hM : (m ++ [(size, size)]).length ≤ 20001 := by simp; omega
    have hout := outLoop size (m ++ [(size, size)]) [(size, size)] hM (m ++ [(size, size)]).length 0 0 [] (by omega) (by omega) (by simp)
    rw [show ((0 : Nat) : Int) = 0 from rfl, List.drop_zero, List.nil_append] at hout
    have hlo := outW_len size (m ++ [(size, size)]) 0
    have hj := joined_eq (outW size 0 (m ++ [(size, size)])) (by omega)
    rw [g1]
    simp only [Option.isSome_some, Option.getD_some]
    rw [ck_pos trivial, ck_pos (by simp only [List.length_cons, List.length_nil]; omega), hout, ob_s]
    simp only [hj, ob_s]
    obtain ⟨q1, q2, q3⟩ := missW_ok hsz.1 hsz.2 (by omega) hv
    have hmW : missW size l = joinA (outW size 0 (m ++ [(size, size)])) := by unfold missW; rw [g1, Option.getD_some]
    rw [← hmW]
    obtain ⟨t, t1, t2⟩ := thereLoop size hsz.2 l (by omega) hv l.length 0 (List.replicate (Int.toNat size) false) (by omega) (by omega) ⟨by simp, fun i hi => by
     have hi' : i < size.toNat := by simpa using hi
     have : List.getD (List.replicate (Int.toNat size) false) i false = false := by rw [List.getD, List.getElem?_replicate, if_pos hi']; rfl
     rw [this]
     exact ⟨fun h => (by cases h), fun h => absurd h (covS_nil _)⟩⟩
    rw [show ((0 : Nat) : Int) = 0 from rfl] at t1
    obtain ⟨o, o1, o2⟩ := runLoop size hsz.2 hsz.1 l t t2 size.toNat 0 [] (by omega) (by omega) (by simp) ⟨NF.nil, fun x hx => (by cases hx), fun i => ⟨fun h => absurd h (covS_nil i), fun h => by omega⟩⟩
    rw [show ((0 : Nat) : Int) = 0 from rfl] at o1
    rw [t1, ob_s, o1, ob_s]
    have hsn : ((size.toNat : Nat) : Int) = size := by omega
    have heq : o = missW size l := nf_unique o2.nf q1 (fun i => by rw [o2.cov i, q2 i, hsn])
    rw [heq]
    exact ⟨_, rfl, rfl, fun h => absurd rfl h, fun _ => ⟨hsz.1, hsz.2, by omega, hv, q1, q2, q3⟩, fun h => absurd rfl h⟩
 ·simp only [if_neg hsz]; exact bad 1 (.inl fun ⟨h1, h2, _⟩ => hsz ⟨h1, h2⟩) (by decide)
end Go.Proofs.Ytpeiomhgaembaaa
set_option linter.unusedVariables false
set_option linter.unusedSimpArgs false
namespace Go.Proofs.Ytpeiomhgaembaaa
open Go Go.Proofs.Ytpeiomhgaembaaa.Eng
theorem overLoop (s : Sp) (l : List Sp) (hl : l.length ≤ 20000) (h : ∀ x ∈ l, ¬ max s.1 x.1 < min s.2 x.2) : ∀ (n k : Nat), l.length - k = n → k ≤ l.length → law8_WireRangesFill.l1 s l (l.length : Int) (k : Int) = some (.inr ()) := by
 intro n
 induction n with
 | zero =>
  intro k hn hk
  refine loopX_done ?_
  simp only [law8_WireRangesFill.s1, cb_dec]
  rw [if_neg (by omega)]
 | succ n ih =>
  intro k hn hk
  have hlt : k < l.length := by omega
  refine (loopX_next ?_).trans (ih (k + 1) (by omega) (by omega))
  simp only [law8_WireRangesFill.s1, cb_dec, rd_lt hlt]
  rw [if_pos (by omega), ck_pos (by omega), if_neg (h _ (List.getElem_mem hlt)), ck_in (by omega) (by omega)]
  rfl
theorem missLoop (x l : List Sp) (hx : x.length ≤ 100000) (hl : l.length ≤ 20000) (h1 : ∀ s ∈ x, s.1 < s.2) (h2 : ∀ s ∈ x, ∀ y ∈ l, ¬ max s.1 y.1 < min s.2 y.2) : ∀ (n k : Nat), x.length - k = n → k ≤ x.length → law8_WireRangesFill.l0 l x (x.length : Int) (k : Int) = some (.inr ()) := by
 intro n
 induction n with
 | zero =>
  intro k hn hk
  refine loopX_done ?_
  simp only [law8_WireRangesFill.s0, cb_dec]
  rw [if_neg (by omega)]
 | succ n ih =>
  intro k hn hk
  have hlt : k < x.length := by omega
  have hm := List.getElem_mem hlt
  have ho := overLoop x[k] l hl (h2 _ hm) l.length 0 (by omega) (by omega)
  rw [show ((0 : Nat) : Int) = 0 from rfl] at ho
  have hs := h1 _ hm
  refine (loopX_next ?_).trans (ih (k + 1) (by omega) (by omega))
  simp only [law8_WireRangesFill.s0, cb_dec, rd_lt hlt, ho, ob_s, caseS_r]
  rw [if_pos (by omega), ck_pos (by omega), if_neg (by omega), ck_in (by omega) (by omega)]
  rfl
theorem law_RF (size : Int) (l : List Sp) : law8_WireRangesFill.f size l = some true := by
 obtain ⟨r, h1, _, h3, h4, _⟩ := ranges_eq size l
 unfold law8_WireRangesFill.f
 rw [h1, ob_s]
 by_cases e : r.2 = 0
 ·obtain ⟨g1, g2, g3, g4, g5, g6, g7⟩ := h4 e
  have hlo := missLoop r.1 l (by omega) g3 (fun s hs => (g5.all s hs).2) (fun s hs y hy h => by
   have h5 := g5.all s hs
   have h6 := (g6 (max s.1 y.1)).1 ⟨s, hs, by omega, by omega⟩
   exact h6.2.2 ⟨y, hy, by omega, by omega⟩) r.1.length 0 (by omega) (by omega)
  rw [show ((0 : Nat) : Int) = 0 from rfl] at hlo
  simp only [e, decide_true, Bool.not_true, cb_f, hlo, ob_s, caseS_r, (cloneSp (l := l) (by omega)).2]
  rw [ck_pos (by omega)]
  obtain ⟨q, q1, _, q3, q4, q5⟩ := ranges_eq size (l ++ r.1)
  rw [q1, ob_s]
  by_cases e2 : q.2 = 0
  ·obtain ⟨_, _, _, _, k5, k6, _⟩ := q4 e2
   have hq : q.1 = [] := k5.empty (fun i hi => by
    obtain ⟨j1, j2, j3⟩ := (k6 i).1 hi
    rw [covS_app] at j3
    have hn : ¬ covS l i := fun h => j3 (.inl h)
    exact j3 (.inr ((g6 i).2 ⟨j1, j2, hn⟩)))
   simp only [e2, decide_true, cb_t, hq, List.length_nil, awake_eq, ob_s]
   rfl
  ·have e3 := q5 e2 g1 g2 (fun x hx => by
    rcases List.mem_append.1 hx with hx | hx
    ·exact g4 x hx
    ·have h5 := g5.all x hx
     have h6 := (g6 (x.2 - 1)).1 ⟨x, hx, by omega, by omega⟩
     exact ⟨h5.1, by omega, by omega, by omega⟩)
   simp only [e3, awake_eq, ob_s]
   rfl
 ·simp only [e, decide_false, Bool.not_false, cb_t, h3 e, List.length_nil, awake_eq, ob_s]
  rfl
end Go.Proofs.Ytpeiomhgaembaaa
set_option linter.unusedVariables false
set_option linter.unusedSimpArgs false
namespace Go.Proofs.Ytpeiomhgaembaaa
open Go Go.Proofs.Ytpeiomhgaembaaa.Eng
abbrev Ck := Int × List UInt8
theorem equalB (l : List UInt8) (hl : l.length ≤ 1000000000000000) : slices_Equal_byte_byte.f l l = some true := by
 have go : ∀ (n k : Nat), l.length - k = n → k ≤ l.length → slices_Equal_byte_byte.l0 l l (l.length : Int) (k : Int) = some (.inr ()) := by
  intro n
  induction n with
  | zero =>
   intro k hn hk
   refine loopX_done ?_
   simp only [slices_Equal_byte_byte.s0, cb_dec]
   rw [if_neg (by omega)]
  | succ n ih =>
   intro k hn hk
   have hlt : k < l.length := by omega
   refine (loopX_next ?_).trans (ih (k + 1) (by omega) (by omega))
   simp only [slices_Equal_byte_byte.s0, cb_dec, rd_lt hlt]
   have hb : 0 ≤ (k : Int) ∧ (k : Int) < (l.length : Int) := by omega
   simp only [ck_pos hb, if_pos hb.2, decide_true, Bool.not_true, cb_f]
   rw [ck_in (by omega) (by omega)]
   rfl
 unfold slices_Equal_byte_byte.f
 have := go l.length 0 (by omega) (by omega)
 rw [show ((0 : Nat) : Int) = 0 from rfl] at this
 simp only [decide_true, Bool.not_true, cb_f, this, ob_s, caseS_r]
theorem equalSp (l : List Sp) (hl : l.length ≤ 1000000000000000) : slices_Equal_api_Span_api_Span.f l l = some true := by
 have go : ∀ (n k : Nat), l.length - k = n → k ≤ l.length → slices_Equal_api_Span_api_Span.l0 l l (l.length : Int) (k : Int) = some (.inr ()) := by
  intro n
  induction n with
  | zero =>
   intro k hn hk
   refine loopX_done ?_
   simp only [slices_Equal_api_Span_api_Span.s0, cb_dec]
   rw [if_neg (by omega)]
  | succ n ih =>
   intro k hn hk
   have hlt : k < l.length := by omega
   refine (loopX_next ?_).trans (ih (k + 1) (by omega) (by omega))
   simp only [slices_Equal_api_Span_api_Span.s0, cb_dec, rd_lt hlt]
   have hb : 0 ≤ (k : Int) ∧ (k : Int) < (l.length : Int) := by omega
   simp only [ck_pos hb, if_pos hb.2, eqI, beq_self_eq_true, Bool.and_self, Bool.not_true, cb_f]
   rw [ck_in (by omega) (by omega)]
   rfl
 unfold slices_Equal_api_Span_api_Span.f
 have := go l.length 0 (by omega) (by omega)
 rw [show ((0 : Nat) : Int) = 0 from rfl] at this
 simp only [decide_true, Bool.not_true, cb_f, this, ob_s, caseS_r]
theorem cloneB {l : List UInt8} (h : l.length ≤ 140737488355328) : slices_Clone_byte_byte.f l = some l := by
 unfold slices_Clone_byte_byte.f
 by_cases he : l = []
 ·subst he
  rw [ck_pos (by simp)]
  exact nq_same
 ·unfold nq
  rw [if_pos he, ck_pos (by simp; omega)]
  rfl
def szC (l : List Ck) : Prop := l.length * 32 ≤ 140737488355328 ∧ ∀ x ∈ l, x.2.length ≤ 140737488355328
theorem copyC {l : List Ck} (h : szC l) : ref8_CopyChunks.f l = some l := by
 have go : ∀ (n k : Nat), l.length - k = n → k ≤ l.length → ref8_CopyChunks.l0 l (l.length : Int) (k : Int) (l.take k) = some l := by
  intro n
  induction n with
  | zero =>
   intro k hn hk
   refine loopX_done ?_
   simp only [ref8_CopyChunks.s0, cb_dec]
   rw [if_neg (by omega), List.take_of_length_le (by omega)]
  | succ n ih =>
   intro k hn hk
   have hlt : k < l.length := by omega
   have h1 := h.1
   refine (loopX_next ?_).trans (ih (k + 1) (by omega) (by omega))
   simp only [ref8_CopyChunks.s0, cb_dec, rd_lt hlt]
   rw [if_pos (by omega), ck_pos (by omega), cloneB (h.2 _ (List.getElem_mem hlt)), ob_s, ck_pos (by simp only [List.length_take, List.length_cons, List.length_nil]; omega), ck_in (by omega) (by omega), List.take_succ_eq_append_getElem hlt]
   rfl
 unfold ref8_CopyChunks.f
 have := go l.length 0 (by omega) (by omega)
 rw [show ((0 : Nat) : Int) = 0 from rfl, List.take_zero] at this
 simp only [this, ob_s]
theorem sameC {l : List Ck} (h : szC l) : ref8_SameChunks.f l l = some true := by
 have go : ∀ (n k : Nat), l.length - k = n → k ≤ l.length → ref8_SameChunks.l0 l l (l.length : Int) (k : Int) = some (.inr ()) := by
  intro n
  induction n with
  | zero =>
   intro k hn hk
   refine loopX_done ?_
   simp only [ref8_SameChunks.s0, cb_dec]
   rw [if_neg (by omega)]
  | succ n ih =>
   intro k hn hk
   have hlt : k < l.length := by omega
   have h1 := h.1
   refine (loopX_next ?_).trans (ih (k + 1) (by omega) (by omega))
   simp only [ref8_SameChunks.s0, cb_dec, rd_lt hlt]
   have hb : 0 ≤ (k : Int) ∧ (k : Int) < (l.length : Int) := by omega
   have hx := h.2 _ (List.getElem_mem hlt)
   simp only [ck_pos hb, if_pos hb.2, decide_true, Bool.not_true, cb_f, equalB _ (Nat.le_trans hx (by decide)), ob_s]
   rw [ck_in (by omega) (by omega)]
   rfl
 unfold ref8_SameChunks.f
 have := go l.length 0 (by omega) (by omega)
 rw [show ((0 : Nat) : Int) = 0 from rfl] at this
 simp only [decide_true, Bool.not_true, cb_f, this, ob_s, caseS_r]
theorem containsB (l : List Bool) (hl : l.length ≤ 2000000) (x : Bool) : ∃ b, slices_Contains_bool_bool.f l x = some b := by
 have go : ∀ (n k : Nat), l.length - k = n → k ≤ l.length → ∃ r, slices_Index_bool_bool.l0 l x (l.length : Int) (k : Int) = some r := by
  intro n
  induction n with
  | zero =>
   intro k hn hk
   refine ⟨.inr (), loopX_done ?_⟩
   simp only [slices_Index_bool_bool.s0, cb_dec]
   rw [if_neg (by omega)]
  | succ n ih =>
   intro k hn hk
   have hlt : k < l.length := by omega
   by_cases e : x = l[k]
   ·refine ⟨.inl (k : Int), loopX_done ?_⟩
    simp only [slices_Index_bool_bool.s0, cb_dec, rd_lt hlt, e, beq_self_eq_true, cb_t]
    rw [if_pos (by omega), ck_pos (by omega)]
   ·obtain ⟨r, hr⟩ := ih (k + 1) (by omega) (by omega)
    refine ⟨r, (loopX_next ?_).trans hr⟩
    have e' : (x == l[k]) = false := by simpa using e
    simp only [slices_Index_bool_bool.s0, cb_dec, rd_lt hlt, e', cb_f]
    rw [if_pos (by omega), ck_pos (by omega), ck_in (by omega) (by omega)]
    rfl
 obtain ⟨r, h0⟩ := go l.length 0 (by omega) (by omega)
 rw [show ((0 : Nat) : Int) = 0 from rfl] at h0
 unfold slices_Contains_bool_bool.f slices_Index_bool_bool.f
 simp only [h0, ob_s]
 cases r <;> exact ⟨_, rfl⟩
theorem patchIn2 {N : Nat} (hN : N ≤ 2000000) (p : Ck) (h0 : 0 ≤ p.1) (h1 : p.1 + (p.2.length : Int) ≤ N) :
  ∀ (n j : Nat) (out : List UInt8) (has : List Bool), p.2.length - j = n → j ≤ p.2.length → out.length = N → has.length = N →
   ∃ r, wire_Patch.l2 p p.2 (p.2.length : Int) (j : Int) out has = some r ∧ ref8_Patch.l2 p p.2 (p.2.length : Int) (j : Int) out has = some r ∧ (∀ o b, r = .inr (o, b) → o.length = N ∧ b.length = N) ∧ ∀ a, r = .inl a → a.1 = [] := by
 intro n
 induction n with
 | zero =>
  intro j out has hn hj ho hb
  refine ⟨.inr (out, has), loopX_done ?_, loopX_done ?_, (fun o b h => by cases h; exact ⟨ho, hb⟩), fun a h => by cases h⟩
  ·simp only [wire_Patch.s2, cb_dec]; rw [if_neg (by omega)]
  ·simp only [ref8_Patch.s2, cb_dec]; rw [if_neg (by omega)]
 | succ n ih =>
  intro j out has hn hj ho hb
  have hjl : j < p.2.length := by omega
  have c0 : 0 ≤ (j : Int) ∧ (j : Int) < (p.2.length : Int) := by omega
  have c1 : InR (p.1 + (j : Int)) := ⟨by omega, by omega⟩
  have c2 : 0 ≤ p.1 + (j : Int) ∧ p.1 + (j : Int) < (has.length : Int) := by omega
  have c3 : Int.toNat (p.1 + (j : Int)) < has.length := by omega
  have c4 : 0 ≤ p.1 + (j : Int) ∧ p.1 + (j : Int) < (out.length : Int) := by omega
  have c5 : Int.toNat (p.1 + (j : Int)) < out.length := by omega
  have c6 : InR ((j : Int) + 1) := ⟨by omega, by omega⟩
  obtain ⟨r, h2, h3, h4⟩ := ih (j + 1) (out.set (Int.toNat (p.1 + (j : Int))) p.2[j]) (has.set (Int.toNat (p.1 + (j : Int))) true) (by omega) (by omega) (by simpa using ho) (by simpa using hb)
  by_cases hc : has.getD (Int.toNat (p.1 + (j : Int))) false = true ∧ ¬ out.getD (Int.toNat (p.1 + (j : Int))) 0 = p.2[j]
  ·refine ⟨.inl ([], 12), loopX_done ?_, loopX_done ?_, (fun o b h => by cases h), fun a h => by cases h; rfl⟩
   ·have e : ¬ ((UInt8.toNat (out.getD (Int.toNat (p.1 + (j : Int))) 0) : Nat) : Int) = ((UInt8.toNat p.2[j] : Nat) : Int) := fun h => hc.2 (UInt8.toNat.inj (by omega))
    simp only [wire_Patch.s2, cb_dec, cb_not, rd_lt hjl, if_pos c0.2, ck_pos c0, ck_pos c1, ck_pos c2, ck_pos c3, ck_pos c4, ck_pos c5, hc.1, cb_t, if_neg e]
   ·have e : ¬ ((UInt8.toNat (out.getD (Int.toNat (p.1 + (j : Int))) 0) : Nat) : Int) = ((UInt8.toNat p.2[j] : Nat) : Int) := fun h => hc.2 (UInt8.toNat.inj (by omega))
    simp only [ref8_Patch.s2, cb_dec, cb_not, rd_lt hjl, if_pos c0.2, ck_pos c0, ck_pos c1, ck_pos c2, ck_pos c3, ck_pos c4, ck_pos c5, hc.1, cb_t, if_neg e]
  ·refine ⟨r, (loopX_next ?_).trans h2, (loopX_next ?_).trans h3, h4⟩
   ·simp only [wire_Patch.s2, cb_dec, cb_not, rd_lt hjl, if_pos c0.2, ck_pos c0, ck_pos c1, ck_pos c2, ck_pos c3, ck_pos c4, ck_pos c5, ck_pos c6]
    cases hh : has.getD (Int.toNat (p.1 + (j : Int))) false with
    | false => rfl
    | true =>
     have e : out.getD (Int.toNat (p.1 + (j : Int))) 0 = p.2[j] := Classical.byContradiction fun h => hc ⟨hh, h⟩
     rw [cb_t, if_pos (by rw [e])]; rfl
   ·simp only [ref8_Patch.s2, cb_dec, cb_not, rd_lt hjl, if_pos c0.2, ck_pos c0, ck_pos c1, ck_pos c2, ck_pos c3, ck_pos c4, ck_pos c5, ck_pos c6, both_same]
    cases hh : has.getD (Int.toNat (p.1 + (j : Int))) false with
    | false => rfl
    | true =>
     have e : out.getD (Int.toNat (p.1 + (j : Int))) 0 = p.2[j] := Classical.byContradiction fun h => hc ⟨hh, h⟩
     rw [cb_t, if_pos (by rw [e])]; rfl
def okCk (size : Int) (x : Ck) : Prop := (0 ≤ x.1 ∧ x.1 ≤ size) ∧ ¬ size - x.1 < (x.2.length : Int)
theorem patchLoop2 {N : Nat} (hN : N ≤ 2000000) (P : List Ck) (hP : P.length ≤ 20000) (hv : ∀ x ∈ P, okCk (N : Int) x) :
  ∀ (n k : Nat) (out : List UInt8) (has : List Bool), P.length - k = n → k ≤ P.length → out.length = N → has.length = N →
   ∃ r, wire_Patch.l1 P (P.length : Int) (k : Int) out has = some r ∧ ref8_Patch.l1 P (P.length : Int) (k : Int) out has = some r ∧ (∀ o b, r = .inr (o, b) → o.length = N ∧ b.length = N) ∧ ∀ a, r = .inl a → a.1 = [] := by
 intro n
 induction n with
 | zero =>
  intro k out has hn hk ho hb
  refine ⟨.inr (out, has), loopX_done ?_, loopX_done ?_, (fun o b h => by cases h; exact ⟨ho, hb⟩), fun a h => by cases h⟩
  ·simp only [wire_Patch.s1, cb_dec]; rw [if_neg (by omega)]
  ·simp only [ref8_Patch.s1, cb_dec]; rw [if_neg (by omega)]
 | succ n ih =>
  intro k out has hn hk ho hb
  have hlt : k < P.length := by omega
  have hx := hv _ (List.getElem_mem hlt)
  obtain ⟨r, h1, h2, h3⟩ := patchIn2 hN P[k] hx.1.1 (by have := hx.2; omega) P[k].2.length 0 out has (by omega) (by omega) ho hb
  rw [show ((0 : Nat) : Int) = 0 from rfl] at h1 h2
  cases r with
  | inl a =>
   refine ⟨.inl a, loopX_done ?_, loopX_done ?_, (fun o b h => by cases h), fun a' h => h3.2 a' h⟩
   ·simp only [wire_Patch.s1, cb_dec, rd_lt hlt, h1, ob_s, caseS_l]
    rw [if_pos (by omega), ck_pos (by omega)]
   ·simp only [ref8_Patch.s1, cb_dec, rd_lt hlt, h2, ob_s, caseS_l]
    rw [if_pos (by omega), ck_pos (by omega)]
  | inr q =>
   obtain ⟨g1, g2⟩ := h3.1 q.1 q.2 rfl
   obtain ⟨r, h4, h5, h6⟩ := ih (k + 1) q.1 q.2 (by omega) (by omega) g1 g2
   refine ⟨r, (loopX_next ?_).trans h4, (loopX_next ?_).trans h5, h6⟩
   ·simp only [wire_Patch.s1, cb_dec, rd_lt hlt, h1, ob_s, caseS_r]
    rw [if_pos (by omega), ck_pos (by omega), ck_in (by omega) (by omega)]; rfl
   ·simp only [ref8_Patch.s1, cb_dec, rd_lt hlt, h2, ob_s, caseS_r]
    rw [if_pos (by omega), ck_pos (by omega), ck_in (by omega) (by omega)]; rfl
theorem patchChk2 (size : Int) (hs : 0 ≤ size ∧ size ≤ 2000000) (P : List Ck) (hP : P.length ≤ 20000) :
  ∀ (n k : Nat), P.length - k = n → k ≤ P.length →
   (wire_Patch.l0 size P (P.length : Int) (k : Int) = some (.inl ([], 1)) ∧ ref8_Patch.l0 size P (P.length : Int) (k : Int) = some (.inl ([], 1))) ∨
   (wire_Patch.l0 size P (P.length : Int) (k : Int) = some (.inr ()) ∧ ref8_Patch.l0 size P (P.length : Int) (k : Int) = some (.inr ()) ∧ ∀ x ∈ P.drop k, okCk size x) := by
 intro n
 induction n with
 | zero =>
  intro k hn hk
  refine .inr ⟨loopX_done ?_, loopX_done ?_, fun x hx => by rw [List.drop_eq_nil_of_le (by omega)] at hx; cases hx⟩
  ·simp only [wire_Patch.s0, cb_dec]; rw [if_neg (by omega)]
  ·simp only [ref8_Patch.s0, cb_dec]; rw [if_neg (by omega)]
 | succ n ih =>
  intro k hn hk
  have hlt : k < P.length := by omega
  have c0 : 0 ≤ (k : Int) ∧ (k : Int) < (P.length : Int) := by omega
  by_cases h1 : 0 ≤ P[k].1 ∧ P[k].1 ≤ size
  ·have c1 : InR (size - P[k].1) := ⟨by omega, by omega⟩
   by_cases h2 : size - P[k].1 < (P[k].2.length : Int)
   ·refine .inl ⟨loopX_done ?_, loopX_done ?_⟩
    ·simp only [wire_Patch.s0, cb_dec, cb_not, rd_lt hlt, within_eq, ob_s, if_pos c0.2, ck_pos c0, if_pos h1, ck_pos c1, if_pos h2]
    ·simp only [ref8_Patch.s0, cb_dec, cb_not, rd_lt hlt, within8_eq, ob_s, if_pos c0.2, ck_pos c0, if_pos h1, ck_pos c1, if_pos h2]
   ·have s1 : wire_Patch.s0 size P (P.length : Int) (k : Int) = some (.inl ((k : Int) + 1)) := by
     simp only [wire_Patch.s0, cb_dec, cb_not, rd_lt hlt, within_eq, ob_s, if_pos c0.2, ck_pos c0, if_pos h1, ck_pos c1, if_neg h2]
     rw [ck_in (by omega) (by omega)]
    have s2 : ref8_Patch.s0 size P (P.length : Int) (k : Int) = some (.inl ((k : Int) + 1)) := by
     simp only [ref8_Patch.s0, cb_dec, cb_not, rd_lt hlt, within8_eq, ob_s, if_pos c0.2, ck_pos c0, if_pos h1, ck_pos c1, if_neg h2]
     rw [ck_in (by omega) (by omega)]
    rcases ih (k + 1) (by omega) (by omega) with ⟨h3, h4⟩ | ⟨h3, h4, h5⟩
    ·exact .inl ⟨(loopX_next s1).trans h3, (loopX_next s2).trans h4⟩
    ·refine .inr ⟨(loopX_next s1).trans h3, (loopX_next s2).trans h4, fun x hx => ?_⟩
     rw [List.drop_eq_getElem_cons hlt] at hx
     rcases List.mem_cons.1 hx with rfl | hx
     ·exact ⟨h1, h2⟩
     ·exact h5 x hx
  ·refine .inl ⟨loopX_done ?_, loopX_done ?_⟩
   ·simp only [wire_Patch.s0, cb_dec, cb_not, rd_lt hlt, within_eq, ob_s, if_pos c0.2, ck_pos c0, if_neg h1]
   ·simp only [ref8_Patch.s0, cb_dec, cb_not, rd_lt hlt, within8_eq, ob_s, if_pos c0.2, ck_pos c0, if_neg h1]
theorem patch_both (P : List Ck) (size : Int) : ∃ r, wire_Patch.f P size = some r ∧ ref8_Patch.f P size = some r ∧ r.1.length ≤ 2000000 := by
 unfold wire_Patch.f ref8_Patch.f
 simp only [within_eq, within8_eq, ob_s, cb_not, cb_dec, dup_eq]
 by_cases hs : 0 ≤ size ∧ size ≤ 2000000
 ·simp only [if_pos hs]
  by_cases hl : (20000 : Int) < (P.length : Int)
  ·simp only [if_pos hl]; exact ⟨_, rfl, rfl, by simp⟩
  ·simp only [if_neg hl]
   have c1 : 0 ≤ size ∧ size * 1 ≤ 140737488355328 := by omega
   have h1 := patchChk2 size hs P (by omega) P.length 0 (by omega) (by omega)
   rw [show ((0 : Nat) : Int) = 0 from rfl, List.drop_zero] at h1
   rcases h1 with ⟨h2, h3⟩ | ⟨h2, h3, hv⟩
   ·rw [h2, h3]; exact ⟨_, rfl, rfl, by simp⟩
   ·have hsn : ((size.toNat : Nat) : Int) = size := by omega
    obtain ⟨r, h4, h5, h6⟩ := patchLoop2 (N := size.toNat) (by omega) P (by omega) (by rw [hsn]; exact hv) P.length 0 (List.replicate size.toNat 0) (List.replicate size.toNat false) (by omega) (by omega) (by simp) (by simp)
    rw [show ((0 : Nat) : Int) = 0 from rfl] at h4 h5
    simp only [h2, h3, ob_s, caseS_r, ck_pos c1, h4, h5]
    cases r with
    | inl a =>
     exact ⟨_, rfl, rfl, by show a.1.length ≤ _; rw [h6.2 a rfl]; simp⟩
    | inr q =>
     obtain ⟨g1, g2⟩ := h6.1 q.1 q.2 rfl
     obtain ⟨b, hb⟩ := containsB q.2 (by omega) false
     simp only [caseS_r, hb, ob_s]
     cases b
     ·exact ⟨_, rfl, rfl, by show q.1.length ≤ _; omega⟩
     ·exact ⟨_, rfl, rfl, by simp⟩
 ·simp only [if_neg hs]; exact ⟨_, rfl, rfl, by simp⟩
theorem law_RM (size : Int) (l : List Sp) (P : List Ck) (hl : l.length * 16 ≤ 140737488355328) (hP : szC P) : law8_WireRangesMatchSpec.f size l P = some true := by
 unfold law8_WireRangesMatchSpec.f
 obtain ⟨r, h1, h2, h3, h4, _⟩ := ranges_eq size l
 obtain ⟨q, h5, h6, h7⟩ := patch_both P size
 have hr : r.1.length ≤ 1000000000000000 := by
  by_cases e : r.2 = 0
  ·have := (h4 e).2.2.2.2.2.2; omega
  ·rw [h3 e]; simp
 simp only [(cloneSp hl).1, copyC hP, h1, h2, h5, h6, ob_s, decide_true, Bool.not_true, cb_f, equalSp _ hr, cb_t, equalB _ (Nat.le_trans h7 (by decide)), equalSp l (by omega), sameC hP, awake_eq]
end Go.Proofs.Ytpeiomhgaembaaa
set_option linter.unusedVariables false
set_option linter.unusedSimpArgs false
set_option maxRecDepth 100000
set_option maxHeartbeats 4000000
namespace Go.Proofs.Ytpeiomhgaembaaa
open Go Go.RowKit Go.ChangeShapes Go.WideShapes Go.ChangeAt Go.Proofs.Ytpeiomhgaembaaa.Eng
theorem own : ownKnob Try.prog.godebug = none := by kernel_rfl
theorem laidOut : laidOutB Try.prog = true := by kernel_rfl
theorem law_RM' (x : Int × (List Sp × List Ck)) (hx : InA T 6 [3, 54, 45] [.int .i64, .slice (.pair (.int .i64) (.int .i64)), .slice (.pair (.int .i64) (.slice .byte))] x) : law8_WireRangesMatchSpec.f x.1 x.2.1 x.2.2 = some true := by
 have hr : reachBytes ≤ 140737488355328 := by decide +kernel
 have h1 : List.length x.2.1 * 16 ≤ reachBytes := hx.2.1.1
 have h2 : List.length x.2.2 * 32 ≤ reachBytes := hx.2.2.1
 refine law_RM x.1 x.2.1 x.2.2 (by omega) ⟨by omega, fun y hy => ?_⟩
 have h3 : List.length y.2 * 1 ≤ reachBytes := (hx.2.2.2 y hy).2.1
 omega
theorem wireRangesMatchSpec_av (xs : List AV) (h : ShapeA T 6 [3,54,45] xs) : FPure Try.prog 8 xs (.v (.bool true)) :=
 law_typed (T := T) (m := 6) (ts := [3,54,45]) law8_WireRangesMatchSpec.ok (by kernel_rfl) (fun x hx => law_RM' x hx) xs h
theorem wireRangesMatchSpec_lifted (os : Os) (started : os.Started) (H : Type) (enc : TypeId × Value → H) :
  ReturnsInHanded {} Try.checked os 8 .any (Rows.wireRangesMatchSpecSpec.pre6 enc Try.prog Try.f8 Rows.wireRangesMatchSpecRow.domain false) (Rows.wireRangesMatchSpecSpec.post enc Try.prog Try.f8 false true false false) := by
 refine returnsInHanded_of_change_sized (C := Try.checked) own started (by kernel_rfl) Try.func8
  (ChangeSpec.witness6 (enc := enc) (C := Try.checked) false ⟨#[], #[.int .i64 0, .slice none 0 0, .slice none 0 0], []⟩ 8 (by kernel_rfl) (by kernel_rfl) (by kernel_rfl) (by kernel_rfl)) ?_
 intro W base args ds gs before hval0 hW hcnd hsz0 _
 have hW' := hW
 obtain ⟨p, q, hA0, hV, rfl, hfz, hnd⟩ := hW
 have hsz : (DataW.weightsEach Try.prog (Try.f8.params.toList ++ Rows.wireRangesMatchSpecSpec.plain.varTypes Try.prog) (ds ++ gs)).all (· ≤ reachBytes) = true := hsz0
 have hA : DataW.TrodAll enc Try.prog W 0 (fun _ => true) true [3,54,45] args.toList ds p := hA0
 obtain ⟨rfl, rfl⟩ := trodVars_none hV
 have hlaw := law_calls (r := .any) (b0 := base) tabOK laidOut wireRangesMatchSpec_av (by decide +kernel) (by kernel_rfl) hA (fun j t v h1 h2 => hval0 j t v (by simpa using h1) (by simpa using h2)) (by rw [List.append_nil] at hsz; exact hsz)
 simp only [Array.toArray_toList] at hlaw
 refine hlaw.mono fun e W' ⟨he, bel, hback⟩ => ?_
 subst he
 obtain ⟨d1, d2, d3, hds⟩ : ∃ d1 d2 d3, ds = [d1, d2, d3] := by
  obtain ⟨_, _, d1, _, _, _, _, rfl, _, _, h⟩ := trodAll_cons hA
  obtain ⟨_, _, d2, _, _, _, _, rfl, _, _, h⟩ := trodAll_cons h
  obtain ⟨_, _, d3, _, _, _, _, rfl, _, _, h⟩ := trodAll_cons h
  obtain ⟨_, rfl, _⟩ := trodAll_nil h
  exact ⟨d1, d2, d3, rfl⟩
 subst hds
 exact ⟨_, rfl, _, _, _, [], _, [], hW', trodAll_mk1 (shut_bool Try.underlying4 _), hback, rfl, bel.frame _, fun h => by cases h⟩
theorem wireRangesMatchSpec_over : Rows.wireRangesMatchSpecRow.holds Try.pinned (OpenSpec.ofChange Rows.wireRangesMatchSpecSpec) :=
 OpenClaim.holds_of_wide 8 Try.f8 rfl rfl rfl rfl rfl rfl rfl ⟨rfl, rfl, rfl, rfl, rfl⟩ rfl rfl rfl rfl rfl (by kernel_rfl) Try.func8 (by kernel_rfl)
  (of_decide_eq_true (by kernel_rfl)) (by unfold Func.isWrapper; first | (rw [if_pos (by decide +kernel)]; kernel_rfl) | (rw [if_neg (by decide +kernel)]; exact ⟨rfl, rfl⟩))
  (fun os started H enc _ => wireRangesMatchSpec_lifted os started H enc)
theorem wireRangesMatchSpec_holds : Rows.WireRangesMatchSpecSaid := wireRangesMatchSpec_over
end Go.Proofs.Ytpeiomhgaembaaa
