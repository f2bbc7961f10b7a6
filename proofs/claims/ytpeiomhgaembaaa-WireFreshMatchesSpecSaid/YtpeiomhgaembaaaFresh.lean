/-
  Part of a proof; nothing here is trusted.
-/
import Derived.Test.YtpeiomhgaembaaaFun
import Derived.Test.YtpeiomhgaembaaaTypB
import Derived.Test.YtpeiomhgaembaaaRows
set_option linter.unusedVariables false
set_option linter.unusedSimpArgs false
namespace Go.Proofs.Ytpeiomhgaembaaa
open Go Go.Proofs.Ytpeiomhgaembaaa.Eng
def quotaF (r b : Int) : Int := if (1 ≤ r ∧ r ≤ 1000000000) ∧ (1 ≤ b ∧ b ≤ 1000000000) then 0 else 1
def lowB (p : Option Int) (t : Int) : Bool := match p with | some q => decide (t < q) | none => false
def asksFault (b : Int) : Option Int → List (Int × Int) → Int
  | _, [] => 0
  | p, x :: l => if ¬ ((0 ≤ x.1 ∧ x.1 ≤ 1000000000) ∧ 0 ≤ x.2 ∧ x.2 ≤ b) then 1 else if lowB p x.1 then 8 else asksFault b (some x.1) l
theorem within_eq (a b c : Int) : wire_within.f a b c = some (decide (b ≤ a ∧ a ≤ c)) := by
  unfold wire_within.f
  rw [cb_dec]
  by_cases h : b ≤ a <;> simp [h]
theorem within8_eq (a b c : Int) : ref8_within.f a b c = some (decide (b ≤ a ∧ a ≤ c)) := by
  unfold ref8_within.f
  rw [cb_dec]
  by_cases h : b ≤ a <;> simp [h]
theorem quota_eq (r b : Int) : wire_CheckQuota.f (r, b) = some (quotaF r b) := by
  unfold wire_CheckQuota.f quotaF
  simp only [within_eq, ob_s, cb_not, cb_dec]
  by_cases h1 : 1 ≤ r ∧ r ≤ 1000000000 <;> by_cases h2 : 1 ≤ b ∧ b ≤ 1000000000 <;> simp [h1, h2]
theorem quota8_eq (r b : Int) : ref8_CheckQuota.f (r, b) = some (quotaF r b) := by
  unfold ref8_CheckQuota.f quotaF
  simp only [within8_eq, ob_s, cb_not, cb_dec]
  by_cases h1 : 1 ≤ r ∧ r ≤ 1000000000 <;> by_cases h2 : 1 ≤ b ∧ b ≤ 1000000000 <;> simp [h1, h2]
def prevA (l : List (Int × Int)) (k : Nat) : Option Int := if k = 0 then none else (l[k - 1]?).map (·.1)
def faultR (f : Int) : ((List Int) × Int) ⊕ Unit := if f = 0 then .inr () else .inl ([], f)
theorem checks (r b : Int) (l : List (Int × Int)) (hl : l.length ≤ 2000) : ∀ (n k : Nat), l.length - k = n → k ≤ l.length → wire_Starts.l0 l (r, b) l (l.length : Int) (k : Int) = some (faultR (asksFault b (prevA l k) (l.drop k))) := by
  intro n
  induction n with
  | zero =>
    intro k hn hk
    obtain rfl : k = l.length := by omega
    refine loopX_done ?_
    simp only [wire_Starts.s0, cb_dec]
    rw [if_neg (by omega), List.drop_length]
    rfl
  | succ n ih =>
    intro k hn hk
    have hlt : k < l.length := by omega
    have hd : l.drop k = l[k] :: l.drop (k + 1) := List.drop_eq_getElem_cons hlt
    have ihk := ih (k + 1) (by omega) (by omega)
    have hnext : prevA l (k + 1) = some l[k].1 := by simp [prevA, hlt]
    rw [hnext] at ihk
    rw [hd]
    have fin : wire_Starts.s0 l (r, b) l (l.length : Int) (k : Int) = if asksFault b (prevA l k) [l[k]] = 0 then some (.inl ((k : Int) + 1)) else some (.inr (.inl ([], asksFault b (prevA l k) [l[k]]))) := by
      simp only [wire_Starts.s0, cb_dec, cb_not, within_eq, ob_s, rd_lt hlt]
      rw [if_pos (by omega), ck_pos (by omega)]
      simp only [asksFault]
      by_cases h1 : 0 ≤ l[k].1 ∧ l[k].1 ≤ 1000000000
      · by_cases h2 : 0 ≤ l[k].2 ∧ l[k].2 ≤ b
        · simp only [h1, h2, and_self, not_true_eq_false, if_true, if_false]
          by_cases hk0 : k = 0
          · subst hk0
            rw [if_neg (by omega), ck_in (by omega) (by omega)]
            simp [prevA, lowB]
          · have hp : prevA l k = some l[k - 1].1 := by simp [prevA, hk0, List.getElem?_eq_getElem (show k - 1 < l.length by omega)]
            have hr : rd ((0 : Int), (0 : Int)) l ((k : Int) - 1) = l[k - 1] := by
              rw [show (k : Int) - 1 = ((k - 1 : Nat) : Int) by omega, rd_lt (by omega)]
            rw [if_pos (by omega), ck_in (by omega) (by omega), ck_pos (by omega), hr, ck_in (by omega) (by omega), hp]
            simp only [lowB, decide_eq_true_eq]
            by_cases h3 : l[k].1 < l[k - 1].1 <;> simp [h3]
        · simp [h1, h2]
      · simp [h1]
    have hcons : asksFault b (prevA l k) (l[k] :: l.drop (k + 1)) = if asksFault b (prevA l k) [l[k]] = 0 then asksFault b (some l[k].1) (l.drop (k + 1)) else asksFault b (prevA l k) [l[k]] := by
      simp only [asksFault]
      split
      · simp
      · split <;> simp
    by_cases h0 : asksFault b (prevA l k) [l[k]] = 0
    · rw [if_pos h0] at fin
      rw [hcons, if_pos h0, ← ihk]
      exact loopX_next fin
    · rw [if_neg h0] at fin
      rw [hcons, if_neg h0]
      refine (loopX_done fin).trans ?_
      simp [faultR, h0]
end Go.Proofs.Ytpeiomhgaembaaa
set_option linter.unusedVariables false
set_option linter.unusedSimpArgs false
namespace Go.Proofs.Ytpeiomhgaembaaa
open Go Go.Proofs.Ytpeiomhgaembaaa.Eng
def waitW (r : Int) (x : Int × Int) (at_ hand : Int) : Int := if 0 < x.2 - hand then max (max (x.1 - at_) 0) ((x.2 - hand + r - 1) / r) else max (x.1 - at_) 0
def nextR (r b : Int) (x : Int × Int) (at_ hand : Int) : Int :=
  if 0 < x.2 - min b (hand + (max at_ x.1 - at_) * r) then max at_ x.1 + (x.2 - min b (hand + (max at_ x.1 - at_) * r) + r - 1) / r else max at_ x.1
theorem next_eq {r b : Int} (hr : 1 ≤ r) (x : Int × Int) (at_ hand : Int) (hh : 0 ≤ hand ∧ hand ≤ b) (hx : 0 ≤ x.2 ∧ x.2 ≤ b) : nextR r b x at_ hand = at_ + waitW r x at_ hand := by
  unfold nextR waitW
  have e : max at_ x.1 = at_ + max (x.1 - at_) 0 := by omega
  rw [e]
  have hw : 0 ≤ max (x.1 - at_) 0 := by omega
  generalize max (x.1 - at_) 0 = w0 at hw ⊢
  rw [show at_ + w0 - at_ = w0 by omega]
  have hm : 0 ≤ w0 * r := Int.mul_nonneg hw (by omega)
  have h8 := Int.lt_ediv_add_one_mul_self (x.2 - hand + r - 1) (show 0 < r by omega)
  rw [Int.add_mul] at h8
  have h9 := Int.ediv_mul_le (x.2 - hand + r - 1) (show r ≠ 0 by omega)
  by_cases hn : x.2 - hand > w0 * r
  · rw [if_pos (by omega), if_pos (by omega)]
    have e2 : x.2 - min b (hand + w0 * r) + r - 1 = (x.2 - hand + r - 1) + (-w0) * r := by rw [Int.neg_mul]; omega
    rw [e2, Int.add_mul_ediv_right _ _ (by omega)]
    have h10 : w0 * r < ((x.2 - hand + r - 1) / r + 1) * r := by rw [Int.add_mul]; omega
    have h11 := Int.lt_of_mul_lt_mul_right h10 (by omega)
    omega
  · rw [if_neg (by omega)]
    split
    · have h10 : ((x.2 - hand + r - 1) / r) * r < (w0 + 1) * r := by rw [Int.add_mul]; omega
      have h11 := Int.lt_of_mul_lt_mul_right h10 (by omega)
      omega
    · rfl
/-- What a wait is worth. -/
theorem wait_ok {r b : Int} (hr : 1 ≤ r ∧ r ≤ 1000000000) (hb : b ≤ 1000000000) (x : Int × Int) (at_ hand : Int) (hh : 0 ≤ hand ∧ hand ≤ b) (hx : 0 ≤ x.2 ∧ x.2 ≤ b) (h1 : x.1 ≤ 1000000000) (ha : 0 ≤ at_) :
    0 ≤ waitW r x at_ hand ∧ waitW r x at_ hand ≤ 2000000000 ∧ x.2 ≤ hand + waitW r x at_ hand * r ∧ 0 ≤ waitW r x at_ hand * r ∧ waitW r x at_ hand * r ≤ 2000000000 * 1000000000 := by
  have key : 0 ≤ waitW r x at_ hand ∧ waitW r x at_ hand ≤ 2000000000 ∧ x.2 ≤ hand + waitW r x at_ hand * r := by
    unfold waitW
    split
    · have h7 : (x.2 - hand + r - 1) / r ≤ 2000000000 ∧ 0 ≤ (x.2 - hand + r - 1) / r :=
        ⟨Int.le_trans (Int.ediv_le_self _ (by omega)) (by omega), Int.ediv_nonneg (by omega) (by omega)⟩
      have h8 := Int.lt_ediv_add_one_mul_self (x.2 - hand + r - 1) (show 0 < r by omega)
      rw [Int.add_mul] at h8
      refine ⟨by omega, by omega, ?_⟩
      have := Int.mul_le_mul_of_nonneg_right (Int.le_max_right (max (x.1 - at_) 0) ((x.2 - hand + r - 1) / r)) (show 0 ≤ r by omega)
      omega
    · refine ⟨by omega, by omega, ?_⟩
      have := Int.mul_nonneg (Int.le_max_right (x.1 - at_) 0) (show 0 ≤ r by omega)
      omega
  exact ⟨key.1, key.2.1, key.2.2, Int.mul_nonneg key.1 (by omega), Int.mul_le_mul key.2.1 hr.2 (by omega) (by omega)⟩
def startsGo (r b : Int) : List (Int × Int) → Int → Int → List Int × Int
  | [], at_, hand => ([], at_)
  | x :: l, at_, hand =>
    let w := waitW r x at_ hand
    let p := startsGo r b l (at_ + w) (min b (hand + w * r) - x.2)
    ((at_ + w) :: p.1, p.2)
def okAsks (b : Int) (l : List (Int × Int)) : Prop := ∀ x ∈ l, (0 ≤ x.1 ∧ x.1 ≤ 1000000000) ∧ 0 ≤ x.2 ∧ x.2 ≤ b
theorem asks_in {b : Int} : ∀ {l : List (Int × Int)} {p : Option Int}, asksFault b p l = 0 → okAsks b l
  | y :: l, p, h, x, hx => by
    unfold asksFault at h
    split at h
    · cases h
    · rename_i hy
      split at h
      · cases h
      · rcases List.mem_cons.1 hx with rfl | hx
        · exact Classical.not_not.1 hy
        · exact asks_in h x hx
/-- wire's loop. -/
theorem loopW {r b : Int} (hr : 1 ≤ r ∧ r ≤ 1000000000) (hb : 1 ≤ b ∧ b ≤ 1000000000) {l : List (Int × Int)} (hl : l.length ≤ 2000) (ho : okAsks b l) :
    ∀ (n k : Nat) (at_ hand : Int) (out : List Int), l.length - k = n → k ≤ l.length → out.length = k → 0 ≤ at_ → at_ ≤ k * 2000000000 → 0 ≤ hand ∧ hand ≤ b →
      wire_Starts.l1 (r, b) l (l.length : Int) at_ hand (k : Int) out = some ((startsGo r b (l.drop k) at_ hand).2, out ++ (startsGo r b (l.drop k) at_ hand).1) := by
  intro n
  induction n with
  | zero =>
    intro k at_ hand out hn hk _ _ _ _
    obtain rfl : k = l.length := by omega
    refine loopX_done ?_
    simp only [wire_Starts.s1, cb_dec]
    rw [if_neg (by omega), List.drop_length]
    simp [startsGo]
  | succ n ih =>
    intro k at_ hand out hn hk hout ha0 ha1 hh
    have hlt : k < l.length := by omega
    have hx := ho l[k] (List.getElem_mem hlt)
    obtain ⟨w1, w2, w3, w4, w5⟩ := wait_ok hr hb.2 l[k] at_ hand hh hx.2 hx.1.2 ha0
    rw [List.drop_eq_getElem_cons hlt]
    simp only [startsGo]
    have ihk := ih (k + 1) (at_ + waitW r l[k] at_ hand) (min b (hand + waitW r l[k] at_ hand * r) - l[k].2) (out ++ [at_ + waitW r l[k] at_ hand]) (by omega) (by omega) (by simp [hout]) (by omega) (by omega) (by omega)
    rw [List.append_assoc, List.singleton_append] at ihk
    rw [← ihk]
    refine loopX_next ?_
    simp only [wire_Starts.s1, cb_dec, rd_lt hlt]
    rw [if_pos (by omega), ck_pos (by omega), ck_in (by omega) (by omega), ck_in (by omega) (by omega)]
    have hlen : (out.length + [at_ + waitW r l[k] at_ hand].length) * 8 ≤ 140737488355328 := by simp; omega
    by_cases hc : 0 < l[k].2 - hand
    · have hw : waitW r l[k] at_ hand = max (max (l[k].1 - at_) 0) ((l[k].2 - hand + r - 1) / r) := by unfold waitW; rw [if_pos hc]
      rw [if_pos hc, ck_in (by omega) (by omega), ck_in (by omega) (by omega), ck_pos (by omega), ← hw, ck_in (by omega) (by omega), ck_in (by omega) (by omega), ck_in (by omega) (by omega), ck_in (by omega) (by omega), ck_pos hlen, ck_in (by omega) (by omega)]
      rfl
    · have hw : waitW r l[k] at_ hand = max (l[k].1 - at_) 0 := by unfold waitW; rw [if_neg hc]
      rw [if_neg hc, ← hw, ck_in (by omega) (by omega), ck_in (by omega) (by omega), ck_in (by omega) (by omega), ck_in (by omega) (by omega), ck_pos hlen, ck_in (by omega) (by omega)]
      rfl
theorem startsGo_end {r b : Int} (hr : 1 ≤ r ∧ r ≤ 1000000000) (hb : b ≤ 1000000000) : ∀ (l : List (Int × Int)) (at_ hand : Int), 0 ≤ at_ → 0 ≤ hand ∧ hand ≤ b → okAsks b l → at_ ≤ (startsGo r b l at_ hand).2
  | [], at_, _, _, _, _ => Int.le_refl _
  | y :: l, at_, hand, ha, hh, ho => by
    have hy := ho y (List.mem_cons_self ..)
    obtain ⟨w1, w2, w3, w4, w5⟩ := wait_ok hr hb y at_ hand hh hy.2 hy.1.2 ha
    have := startsGo_end hr hb l (at_ + waitW r y at_ hand) (min b (hand + waitW r y at_ hand * r) - y.2) (by omega) (by omega) (fun z hz => ho z (List.mem_cons_of_mem _ hz))
    simp only [startsGo]
    omega
/-- The reference's loop. -/
theorem loopR {r b : Int} (hr : 1 ≤ r ∧ r ≤ 1000000000) (hb : 1 ≤ b ∧ b ≤ 1000000000) {l : List (Int × Int)} (hl : l.length ≤ 2000) (ho : okAsks b l) :
    ∀ (n k : Nat) (at_ hand : Int) (out : List Int), l.length - k = n → k ≤ l.length → out.length = k → 0 ≤ at_ → at_ ≤ 1000000000 → 0 ≤ hand ∧ hand ≤ b →
      ref8_Starts.l1 (r, b) l (l.length : Int) at_ hand (k : Int) out = some (if 1000000000 < (startsGo r b (l.drop k) at_ hand).2 then .inl ([], 1) else .inr (out ++ (startsGo r b (l.drop k) at_ hand).1)) := by
  intro n
  induction n with
  | zero =>
    intro k at_ hand out hn hk _ _ _ _
    obtain rfl : k = l.length := by omega
    refine loopX_done ?_
    simp only [ref8_Starts.s1, cb_dec]
    rw [if_neg (by omega), List.drop_length]
    have hno : ¬ 1000000000 < at_ := by omega
    simp [startsGo, hno]
  | succ n ih =>
    intro k at_ hand out hn hk hout ha0 ha1 hh
    have hlt : k < l.length := by omega
    have hx := ho l[k] (List.getElem_mem hlt)
    obtain ⟨w1, w2, w3, w4, w5⟩ := wait_ok hr hb.2 l[k] at_ hand hh hx.2 hx.1.2 ha0
    have hne := next_eq (b := b) hr.1 l[k] at_ hand hh hx.2
    rw [List.drop_eq_getElem_cons hlt]
    simp only [startsGo]
    have he := startsGo_end hr hb.2 (l.drop (k + 1)) (at_ + waitW r l[k] at_ hand) (min b (hand + waitW r l[k] at_ hand * r) - l[k].2) (by omega) (by omega) (fun z hz => ho z (List.mem_of_mem_drop hz))
    have hlen : (out.length + [at_ + waitW r l[k] at_ hand].length) * 8 ≤ 140737488355328 := by simp; omega
    -- one round
    have round : ref8_Starts.s1 (r, b) l (l.length : Int) at_ hand (k : Int) out = if 1000000000 < at_ + waitW r l[k] at_ hand then some (.inr (.inl ([], 1))) else some (.inl (at_ + waitW r l[k] at_ hand, min b (hand + waitW r l[k] at_ hand * r) - l[k].2, (k : Int) + 1, out ++ [at_ + waitW r l[k] at_ hand])) := by
      simp only [ref8_Starts.s1, cb_dec, rd_lt hlt]
      have m0 : 0 ≤ max at_ l[k].1 - at_ ∧ max at_ l[k].1 - at_ ≤ 1000000000 := by omega
      have m1 : 0 ≤ (max at_ l[k].1 - at_) * r := Int.mul_nonneg m0.1 (by omega)
      have m2 : (max at_ l[k].1 - at_) * r ≤ 1000000000 * 1000000000 := Int.mul_le_mul m0.2 hr.2 (by omega) (by omega)
      rw [if_pos (by omega), ck_pos (by omega), ck_in (by omega) (by omega), ck_in (by omega) (by omega), ck_in (by omega) (by omega), ck_in (by omega) (by omega)]
      have eW : at_ + waitW r l[k] at_ hand - at_ = waitW r l[k] at_ hand := by omega
      unfold nextR at hne
      by_cases hc : 0 < l[k].2 - min b (hand + (max at_ l[k].1 - at_) * r)
      · rw [if_pos hc] at hne
        rw [if_pos hc, ck_in (by omega) (by omega), ck_in (by omega) (by omega), ck_pos (by omega), hne, ck_in (by omega) (by omega)]
        by_cases hz : 1000000000 < at_ + waitW r l[k] at_ hand
        · rw [if_pos hz, if_pos hz]
        · rw [if_neg hz, if_neg hz, eW, ck_in (by omega) (by omega), ck_in (by omega) (by omega), ck_in (by omega) (by omega), ck_in (by omega) (by omega), ck_pos hlen, ck_in (by omega) (by omega)]
      · rw [if_neg hc] at hne
        rw [if_neg hc, hne]
        by_cases hz : 1000000000 < at_ + waitW r l[k] at_ hand
        · rw [if_pos hz, if_pos hz]
        · rw [if_neg hz, if_neg hz, eW, ck_in (by omega) (by omega), ck_in (by omega) (by omega), ck_in (by omega) (by omega), ck_in (by omega) (by omega), ck_pos hlen, ck_in (by omega) (by omega)]
    by_cases hz : 1000000000 < at_ + waitW r l[k] at_ hand
    · rw [if_pos hz] at round
      have hbig : 1000000000 < (startsGo r b (l.drop (k + 1)) (at_ + waitW r l[k] at_ hand) (min b (hand + waitW r l[k] at_ hand * r) - l[k].2)).2 := by omega
      refine (loopX_done round).trans ?_
      simp [hbig]
    · rw [if_neg hz] at round
      have ihk := ih (k + 1) (at_ + waitW r l[k] at_ hand) (min b (hand + waitW r l[k] at_ hand * r) - l[k].2) (out ++ [at_ + waitW r l[k] at_ hand]) (by omega) (by omega) (by simp [hout]) (by omega) (by omega) (by omega)
      refine (loopX_next round).trans (ihk.trans ?_)
      by_cases hbig : 1000000000 < (startsGo r b (l.drop (k + 1)) (at_ + waitW r l[k] at_ hand) (min b (hand + waitW r l[k] at_ hand * r) - l[k].2)).2 <;> simp [hbig]
/-- What Starts answers. -/
def starts (r b : Int) (l : List (Int × Int)) : List Int × Int :=
  if quotaF r b ≠ 0 then ([], quotaF r b) else if 2000 < (l.length : Int) then ([], 2) else if asksFault b none l ≠ 0 then ([], asksFault b none l) else
    if 1000000000 < (startsGo r b l 0 b).2 then ([], 1) else ((startsGo r b l 0 b).1, 0)
theorem quotaF_ok {r b : Int} (h : quotaF r b = 0) : (1 ≤ r ∧ r ≤ 1000000000) ∧ (1 ≤ b ∧ b ≤ 1000000000) := by
  unfold quotaF at h
  split at h
  · assumption
  · cases h
theorem starts_eq (r b : Int) (l : List (Int × Int)) : wire_Starts.f (r, b) l = some (starts r b l) := by
  unfold wire_Starts.f starts
  simp only [quota_eq, ob_s, cb_not, cb_dec]
  by_cases hq : quotaF r b = 0
  · rw [if_pos hq, if_neg (show ¬ (quotaF r b ≠ 0) by simp [hq])]
    by_cases hl : 2000 < (l.length : Int)
    · rw [if_pos hl, if_pos hl]
    · have hl' : l.length ≤ 2000 := by omega
      rw [if_neg hl, if_neg hl]
      have hc := checks r b l hl' l.length 0 (by omega) (by omega)
      rw [show ((0 : Nat) : Int) = 0 from rfl, List.drop_zero] at hc
      rw [hc, ob_s]
      have hp : prevA l 0 = none := rfl
      rw [hp]
      by_cases hf : asksFault b none l = 0
      · obtain ⟨h1, h2⟩ := quotaF_ok hq
        rw [if_neg (by simp [hf])]
        have e : faultR (asksFault b none l) = .inr () := by simp [faultR, hf]
        rw [e, caseS_r]
        have h3 := loopW h1 h2 hl' (asks_in hf) l.length 0 0 b [] (by omega) (by omega) rfl (by omega) (by omega) (by omega)
        rw [show ((0 : Nat) : Int) = 0 from rfl, List.drop_zero, List.nil_append] at h3
        rw [h3, ob_s]
        by_cases hz : 1000000000 < (startsGo r b l 0 b).2
        · rw [if_pos hz, if_pos hz]
        · rw [if_neg hz, if_neg hz]
      · rw [if_pos hf]
        have e : faultR (asksFault b none l) = .inl ([], asksFault b none l) := by simp [faultR, hf]
        rw [e, caseS_l]
  · rw [if_neg hq, if_pos hq]
theorem checks8 (r b : Int) (l : List (Int × Int)) (hl : l.length ≤ 2000) : ref8_Starts.l0 l (r, b) l (l.length : Int) 0 = some (faultR (asksFault b none l)) := by
  have hc := checks r b l hl l.length 0 (by omega) (by omega)
  rw [show ((0 : Nat) : Int) = 0 from rfl, List.drop_zero, show prevA l 0 = none from rfl] at hc
  rw [← hc]
  unfold ref8_Starts.l0 wire_Starts.l0
  congr 1
theorem starts8_eq (r b : Int) (l : List (Int × Int)) : ref8_Starts.f (r, b) l = some (starts r b l) := by
  unfold ref8_Starts.f starts
  simp only [quota8_eq, ob_s, cb_not, cb_dec]
  by_cases hq : quotaF r b = 0
  · rw [if_pos hq, if_neg (show ¬ (quotaF r b ≠ 0) by simp [hq])]
    by_cases hl : 2000 < (l.length : Int)
    · rw [if_pos hl, if_pos hl]
    · have hl' : l.length ≤ 2000 := by omega
      rw [if_neg hl, if_neg hl, checks8 r b l hl', ob_s]
      by_cases hf : asksFault b none l = 0
      · obtain ⟨h1, h2⟩ := quotaF_ok hq
        rw [if_neg (by simp [hf])]
        have e : faultR (asksFault b none l) = .inr () := by simp [faultR, hf]
        rw [e, caseS_r]
        have h3 := loopR h1 h2 hl' (asks_in hf) l.length 0 0 b [] (by omega) (by omega) rfl (by omega) (by omega) (by omega)
        rw [show ((0 : Nat) : Int) = 0 from rfl, List.drop_zero, List.nil_append] at h3
        rw [h3, ob_s]
        by_cases hz : 1000000000 < (startsGo r b l 0 b).2
        · rw [if_pos hz, if_pos hz, caseS_l]
        · rw [if_neg hz, if_neg hz, caseS_r]
      · rw [if_pos hf]
        have e : faultR (asksFault b none l) = .inl ([], asksFault b none l) := by simp [faultR, hf]
        rw [e, caseS_l]
  · rw [if_neg hq, if_pos hq]
end Go.Proofs.Ytpeiomhgaembaaa
set_option linter.unusedVariables false
set_option linter.unusedSimpArgs false
namespace Go.Proofs.Ytpeiomhgaembaaa
open Go Go.Proofs.Ytpeiomhgaembaaa.Eng
theorem sent8_eq (q : Int × Int) (l : List (Int × Int)) (p e : Int) : ref8_Sent.f q l p e = wire_Sent.f q l p e := by
  obtain ⟨r, b⟩ := q
  unfold ref8_Sent.f wire_Sent.f
  simp only [starts_eq, starts8_eq, ob_s, within_eq, within8_eq]
  rfl
theorem clone_eq {l : List (Int × Int)} (h : l.length * 16 ≤ 140737488355328) : slices_Clone_api_Ask_api_Ask.f l = some l := by
  unfold slices_Clone_api_Ask_api_Ask.f
  rw [ck_pos (by simpa using h), List.nil_append]
  by_cases hl : l = []
  · subst hl; exact nq_same
  · unfold nq; rw [if_pos hl]
theorem equalI (l : List Int) (hl : l.length ≤ 1000000000000) : slices_Equal_int_int.f l l = some true := by
  have go : ∀ (n k : Nat), l.length - k = n → k ≤ l.length → slices_Equal_int_int.l0 l l (l.length : Int) (k : Int) = some (.inr ()) := by
    intro n
    induction n with
    | zero =>
      intro k hn hk
      refine loopX_done ?_
      simp only [slices_Equal_int_int.s0, cb_dec]
      rw [if_neg (by omega)]
    | succ n ih =>
      intro k hn hk
      have hlt : k < l.length := by omega
      refine (loopX_next ?_).trans (ih (k + 1) (by omega) (by omega))
      simp only [slices_Equal_int_int.s0, cb_dec, rd_lt hlt]
      have hb : 0 ≤ (k : Int) ∧ (k : Int) < (l.length : Int) := by omega
      simp only [ck_pos hb, if_pos hb.2, decide_true, Bool.not_true, cb_f]
      rw [ck_in (by omega) (by omega)]
      rfl
  unfold slices_Equal_int_int.f
  have := go l.length 0 (by omega) (by omega)
  rw [show ((0 : Nat) : Int) = 0 from rfl] at this
  simp only [decide_true, Bool.not_true, cb_f, this, ob_s, caseS_r]
theorem equalA (l : List (Int × Int)) (hl : l.length ≤ 1000000000000000) : slices_Equal_api_Ask_api_Ask.f l l = some true := by
  have go : ∀ (n k : Nat), l.length - k = n → k ≤ l.length → slices_Equal_api_Ask_api_Ask.l0 l l (l.length : Int) (k : Int) = some (.inr ()) := by
    intro n
    induction n with
    | zero =>
      intro k hn hk
      refine loopX_done ?_
      simp only [slices_Equal_api_Ask_api_Ask.s0, cb_dec]
      rw [if_neg (by omega)]
    | succ n ih =>
      intro k hn hk
      have hlt : k < l.length := by omega
      refine (loopX_next ?_).trans (ih (k + 1) (by omega) (by omega))
      simp only [slices_Equal_api_Ask_api_Ask.s0, cb_dec, rd_lt hlt]
      have hb : 0 ≤ (k : Int) ∧ (k : Int) < (l.length : Int) := by omega
      simp only [ck_pos hb, if_pos hb.2, eqI, beq_self_eq_true, Bool.and_true, Bool.not_true, cb_f]
      rw [ck_in (by omega) (by omega)]
      rfl
  unfold slices_Equal_api_Ask_api_Ask.f
  have := go l.length 0 (by omega) (by omega)
  rw [show ((0 : Nat) : Int) = 0 from rfl] at this
  simp only [decide_true, Bool.not_true, cb_f, this, ob_s, caseS_r]
theorem startsGo_len (r b : Int) : ∀ (l : List (Int × Int)) (a h : Int), (startsGo r b l a h).1.length = l.length
  | [], _, _ => rfl
  | x :: l, a, h => by simp only [startsGo, List.length_cons, startsGo_len r b l]
theorem starts_len (r b : Int) (l : List (Int × Int)) : (starts r b l).1.length ≤ 2000 := by
  unfold starts
  repeat' split
  all_goals first | simp; done | skip
  rw [startsGo_len]; omega
theorem awake_eq : law8_awake.f = some true := by
  unfold law8_awake.f
  rw [starts_eq]
  have e : starts 2 10 [(0, 8), (0, 8)] = ([0, 3], 0) := by decide
  rw [e, ob_s]
  simp only [cb_dec, if_true, List.length_cons, List.length_nil]
  rw [if_pos (by omega), ck_pos (by omega)]
  have e1 : rd (0 : Int) [0, 3] 0 = 0 := rfl
  have e2 : rd (0 : Int) [0, 3] 1 = 3 := rfl
  rw [e1, e2, if_pos rfl, ck_pos (by omega)]
  rfl
theorem sentLoop {b p e : Int} {l : List (Int × Int)} {ts : List Int} (hb : b ≤ 1000000000) (ho : okAsks b l) (hts : ts.length ≤ l.length) (hl : l.length ≤ 2000) :
    ∀ (n k : Nat) (acc : Int), ts.length - k = n → k ≤ ts.length → 0 ≤ acc → acc ≤ k * 1000000000 → ∃ v, wire_Sent.l0 l p e ts (ts.length : Int) acc (k : Int) = some v := by
  intro n
  induction n with
  | zero =>
    intro k acc hn hk _ _
    refine ⟨acc, loopX_done ?_⟩
    simp only [wire_Sent.s0, cb_dec]
    rw [if_neg (by omega)]
  | succ n ih =>
    intro k acc hn hk h0 h1
    have hlt : k < ts.length := by omega
    have hlt2 : k < l.length := by omega
    have hx := ho l[k] (List.getElem_mem hlt2)
    have key : ∃ a2, wire_Sent.s0 l p e ts (ts.length : Int) acc (k : Int) = some (.inl (a2, ((k + 1 : Nat) : Int))) ∧ 0 ≤ a2 ∧ a2 ≤ (k + 1 : Nat) * 1000000000 := by
      simp only [wire_Sent.s0, cb_dec, rd_lt hlt, rd_lt hlt2]
      rw [if_pos (by omega), ck_pos (by omega)]
      by_cases c1 : p ≤ ts[k]
      · by_cases c2 : ts[k] < e
        · rw [if_pos c1, if_pos c2, ck_pos (by omega), ck_in (by omega) (by omega), ck_in (by omega) (by omega)]
          exact ⟨_, rfl, by omega, by omega⟩
        · rw [if_pos c1, if_neg c2, ck_in (by omega) (by omega)]
          exact ⟨_, rfl, by omega, by omega⟩
      · rw [if_neg c1, ck_in (by omega) (by omega)]
        exact ⟨_, rfl, by omega, by omega⟩
    obtain ⟨a2, h2, h3, h4⟩ := key
    obtain ⟨v, hv⟩ := ih (k + 1) a2 (by omega) (by omega) h3 h4
    exact ⟨v, (loopX_next h2).trans hv⟩
theorem starts_zero {r b : Int} {l : List (Int × Int)} (h : (starts r b l).2 = 0) : b ≤ 1000000000 ∧ okAsks b l ∧ l.length ≤ 2000 ∧ (starts r b l).1.length ≤ l.length := by
  unfold starts at h ⊢
  by_cases h1 : quotaF r b ≠ 0
  · rw [if_pos h1] at h; exact absurd h h1
  · rw [if_neg h1] at h ⊢
    have hb := (quotaF_ok (Classical.not_not.1 h1)).2.2
    by_cases h2 : 2000 < (l.length : Int)
    · rw [if_pos h2] at h; cases h
    · rw [if_neg h2] at h ⊢
      by_cases h3 : asksFault b none l ≠ 0
      · rw [if_pos h3] at h; exact absurd h h3
      · rw [if_neg h3] at h ⊢
        refine ⟨hb, asks_in (Classical.not_not.1 h3), by omega, ?_⟩
        split
        · simp
        · rw [startsGo_len]; exact Nat.le_refl _
theorem sent_some (q : Int × Int) (l : List (Int × Int)) (p e : Int) : ∃ v, wire_Sent.f q l p e = some v := by
  obtain ⟨r, b⟩ := q
  unfold wire_Sent.f
  simp only [starts_eq, ob_s, within_eq, cb_not, cb_dec]
  by_cases h : (starts r b l).2 = 0
  · obtain ⟨h1, h2, h3, h4⟩ := starts_zero h
    rw [if_pos h]
    obtain ⟨v, hv⟩ := sentLoop (p := p) (e := e) h1 h2 h4 h3 (starts r b l).1.length 0 0 (by omega) (by omega) (by omega) (by omega)
    rw [show ((0 : Nat) : Int) = 0 from rfl] at hv
    rw [hv, ob_s]
    repeat' split
    all_goals exact ⟨_, rfl⟩
  · rw [if_neg h]; exact ⟨_, rfl⟩
theorem law_QM (q : Int × Int) (l : List (Int × Int)) (p e : Int) (hl : l.length * 16 ≤ 140737488355328) : law8_WireQuotasMatchSpec.f q l p e = some true := by
  obtain ⟨rr, b⟩ := q
  unfold law8_WireQuotasMatchSpec.f
  have hn := starts_len rr b l
  obtain ⟨v, hv⟩ := sent_some (rr, b) l p e
  simp only [clone_eq hl, starts_eq, starts8_eq, quota_eq, quota8_eq, ob_s, decide_true, Bool.not_true, cb_f, cb_t, equalI _ (show (starts rr b l).1.length ≤ 1000000000000 by omega), sent8_eq, hv, equalA l (by omega), awake_eq]
end Go.Proofs.Ytpeiomhgaembaaa
set_option linter.unusedVariables false
set_option linter.unusedSimpArgs false
namespace Go.Proofs.Ytpeiomhgaembaaa
open Go Go.Proofs.Ytpeiomhgaembaaa.Eng
theorem below_ok (x n : Int) (h0 : 0 < n) (h1 : n ≤ 1000000000) : ∃ r, ref8_Below.f x n = some r ∧ 0 ≤ r ∧ r < n := by
  have a1 := Int.tmod_lt_of_pos x h0
  have a2 := Int.lt_tmod_of_pos x h0
  unfold ref8_Below.f
  rw [ck_pos (by omega), cb_dec]
  by_cases h : Int.tmod x n < 0
  · rw [if_pos h, ck_in (by omega) (by omega)]
    exact ⟨_, rfl, by omega, by omega⟩
  · rw [if_neg h]
    exact ⟨_, rfl, by omega, by omega⟩
/-- A part of B. -/
def goodP (B : List UInt8) (p : Int × List UInt8) : Prop := ∃ f t : Nat, f ≤ t ∧ t ≤ B.length ∧ p = ((f : Int), (B.take t).drop f)
def coverP (P : List (Int × List UInt8)) (a : Nat) : Prop := ∀ i, i < a → ∃ p ∈ P, p.1 ≤ (i : Int) ∧ (i : Int) < p.1 + (p.2.length : Int)
theorem partsLoop {B : List UInt8} (hB : B.length ≤ 2000000) {cs o2 : List Int} (hl : cs.length ≤ 1001) (hlast : ∀ (h : cs ≠ []), cs.getLast h = -1) :
    ∀ (n k a : Nat) (P : List (Int × List UInt8)), cs.length - k = n → k ≤ cs.length → a ≤ B.length → (∀ p ∈ P, goodP B p) → coverP P a → P.length = k → (k = cs.length → a = B.length) →
      ∃ P', law8_WirePatchPutsTogether.l0 B (cs.length : Int) P (a : Int) (k : Int) cs o2 = some (P', cs, o2) ∧ (∀ p ∈ P', goodP B p) ∧ coverP P' B.length ∧ P'.length ≤ 1001 := by
  intro n
  induction n with
  | zero =>
    intro k a P hn hk ha hg hc hP he
    obtain rfl : k = cs.length := by omega
    refine ⟨P, loopX_done ?_, hg, by rw [← he rfl]; exact hc, by omega⟩
    simp only [law8_WirePatchPutsTogether.s0, cb_dec]
    rw [if_neg (by omega)]
  | succ n ih =>
    intro k a P hn hk ha hg hc hP he
    have hlt : k < cs.length := by omega
    have hd : cs.getD (Int.toNat (k : Int)) 0 = cs[k] := by simp [List.getD, hlt]
    obtain ⟨b3, e3, g3, l3⟩ := below_ok cs[k] 3 (by omega) (by omega)
    have step : ∀ t : Nat, a ≤ t → t ≤ B.length → (k + 1 = cs.length → t = B.length) → ∃ f : Nat, f ≤ a ∧ max (0 : Int) ((a : Int) - b3) = (f : Int) ∧ ∃ P', law8_WirePatchPutsTogether.l0 B (cs.length : Int) ([((f : Int), List.drop f (List.take t B))] ++ P) (t : Int) ((k + 1 : Nat) : Int) cs o2 = some (P', cs, o2) ∧ (∀ p ∈ P', goodP B p) ∧ coverP P' B.length ∧ P'.length ≤ 1001 := by
      intro t h1 h2 h3
      have hf0 : 0 ≤ max (0 : Int) ((a : Int) - b3) ∧ max (0 : Int) ((a : Int) - b3) ≤ a := by omega
      obtain ⟨f, hf⟩ := Int.eq_ofNat_of_zero_le hf0.1
      refine ⟨f, by omega, hf, ih (k + 1) t _ (by omega) (by omega) h2 ?_ ?_ (by simp; omega) h3⟩
      · intro p hp
        rcases List.mem_cons.1 hp with rfl | hp
        · exact ⟨f, t, by omega, h2, rfl⟩
        · exact hg p hp
      · intro i hi
        rcases Nat.lt_or_ge i a with h4 | h4
        · obtain ⟨p, hp, h5⟩ := hc i h4
          exact ⟨p, List.mem_cons_of_mem _ hp, h5⟩
        · refine ⟨_, List.mem_cons_self .., ?_, ?_⟩
          · show (f : Int) ≤ i; omega
          · show (i : Int) < (f : Int) + ((List.drop f (List.take t B)).length : Int)
            rw [List.length_drop, List.length_take]; omega
    by_cases hneg : 0 ≤ cs[k]
    · obtain ⟨bn, e4, g4, l4⟩ := below_ok cs[k] ((B.length : Int) - a + 1) (by omega) (by omega)
      obtain ⟨bt, rfl⟩ := Int.eq_ofNat_of_zero_le g4
      obtain ⟨f, hf0, hf, P', h5, h6⟩ := step (a + bt) (by omega) (by omega) (fun h => by
        exfalso
        have hne : cs ≠ [] := by intro h0; rw [h0] at hlt; simp at hlt
        have h7 := hlast hne
        rw [List.getLast_eq_getElem] at h7
        have : cs.length - 1 = k := by omega
        simp only [this] at h7
        omega)
      refine ⟨P', (loopX_next ?_).trans h5, h6⟩
      simp only [law8_WirePatchPutsTogether.s0, cb_dec, hd]
      have hlen : (List.length [((f : Int), List.drop f (List.take (a + bt) B))] + P.length) * 32 ≤ 140737488355328 := by simp; omega
      rw [if_pos (by omega), ck_pos (by omega), ck_pos (by omega), if_pos hneg, ck_in (by omega) (by omega), ck_in (by omega) (by omega), e4, ob_s, ck_in (by omega) (by omega), e3, ob_s, ck_in (by omega) (by omega), hf, ck_pos (by omega)]
      have e5 : Int.toNat ((a : Int) + (bt : Int)) = a + bt := by omega
      have e6 : Int.toNat (f : Int) = f := by omega
      rw [e5, e6, ck_pos hlen, ck_in (by omega) (by omega)]
      simp
    · obtain ⟨f, hf0, hf, P', h5, h6⟩ := step B.length (by omega) (Nat.le_refl _) (fun _ => rfl)
      refine ⟨P', (loopX_next ?_).trans h5, h6⟩
      simp only [law8_WirePatchPutsTogether.s0, cb_dec, hd]
      have hlen : (List.length [((f : Int), List.drop f (List.take B.length B))] + P.length) * 32 ≤ 140737488355328 := by simp; omega
      rw [if_pos (by omega), ck_pos (by omega), ck_pos (by omega), if_neg hneg, e3, ob_s, ck_in (by omega) (by omega), hf, ck_pos (by omega)]
      have e5 : Int.toNat (B.length : Int) = B.length := by omega
      have e6 : Int.toNat (f : Int) = f := by omega
      rw [e5, e6, ck_pos hlen, ck_in (by omega) (by omega)]
      simp
end Go.Proofs.Ytpeiomhgaembaaa
set_option linter.unusedVariables false
set_option linter.unusedSimpArgs false
namespace Go.Proofs.Ytpeiomhgaembaaa
open Go Go.Proofs.Ytpeiomhgaembaaa.Eng
/-- What is laid is as in B. -/
def okOH (B out : List UInt8) (has : List Bool) : Prop := out.length = B.length ∧ has.length = B.length ∧ ∀ k : Nat, has.getD k false = true → out.getD k 0 = B.getD k 0
theorem okOH.set {B out : List UInt8} {has : List Bool} (h : okOH B out has) {k : Nat} {y : UInt8} (hy : B.getD k 0 = y) : okOH B (out.set k y) (has.set k true) := by
  refine ⟨by simp [h.1], by simp [h.2.1], fun q hq => ?_⟩
  by_cases e : k = q
  · subst e
    rcases Nat.lt_or_ge k out.length with h1 | h1
    · simp [List.getD, List.getElem?_set, h1, ← hy]
    · have : B.length ≤ k := by rw [← h.1]; exact h1
      have hn : ¬ k < has.length := by rw [h.2.1]; omega
      simp [List.getD, List.getElem?_set, hn] at hq
  · have := h.2.2 q
    simp only [List.getD, List.getElem?_set, if_neg e] at hq this ⊢
    exact this hq
theorem patchIn {B : List UInt8} (hB : B.length ≤ 2000000) {f t : Nat} (hft : f ≤ t) (ht : t ≤ B.length) :
    ∀ (n j : Nat) (out : List UInt8) (has : List Bool), (t - f) - j = n → j ≤ t - f → okOH B out has →
      ∃ out' has', wire_Patch.l2 ((f : Int), (B.take t).drop f) ((B.take t).drop f) (((t - f : Nat) : Nat) : Int) (j : Int) out has = some (.inr (out', has')) ∧ okOH B out' has' ∧ ∀ k : Nat, (has.getD k false = true ∨ (f + j ≤ k ∧ k < t)) → has'.getD k false = true := by
  have hlen : ((B.take t).drop f).length = t - f := by rw [List.length_drop, List.length_take]; omega
  intro n
  induction n with
  | zero =>
    intro j out has hn hj ho
    refine ⟨out, has, loopX_done ?_, ho, fun k hk => ?_⟩
    · simp only [wire_Patch.s2, cb_dec]
      rw [if_neg (by omega)]
    · rcases hk with hk | hk
      · exact hk
      · omega
  | succ n ih =>
    intro j out has hn hj ho
    have hjl : j < ((B.take t).drop f).length := by omega
    have hfj : f + j < B.length := by omega
    have hy : ((B.take t).drop f)[j] = B.getD (f + j) 0 := by
      rw [List.getElem_drop, List.getElem_take]
      simp [List.getD, hfj]
    have e1 : Int.toNat ((f : Int) + (j : Int)) = f + j := by omega
    obtain ⟨out', has', h1, h2, h3⟩ := ih (j + 1) (out.set (f + j) (B.getD (f + j) 0)) (has.set (f + j) true) (by omega) (by omega) (ho.set rfl)
    refine ⟨out', has', (loopX_next ?_).trans h1, h2, fun k hk => h3 k ?_⟩
    · simp only [wire_Patch.s2, cb_dec, cb_not, rd_lt hjl, hy]
      have l1 : out.length = B.length := ho.1
      have l2 : has.length = B.length := ho.2.1
      rw [if_pos (by omega), ck_pos (by omega), ck_in (by omega) (by omega)]
      rw [e1, ck_pos (by omega), ck_pos (by omega)]
      cases hh : has.getD (f + j) false with
      | false =>
        rw [cb_f, ck_pos (by omega), ck_pos (by omega), ck_pos (by omega), ck_pos (by omega), ck_in (by omega) (by omega)]
        rfl
      | true =>
        rw [cb_t, ck_pos (by omega), ck_pos (by omega), if_pos (by rw [ho.2.2 _ hh]), ck_pos (by omega), ck_pos (by omega), ck_pos (by omega), ck_pos (by omega), ck_in (by omega) (by omega)]
        rfl
    · by_cases e : k = f + j
      · subst e
        left
        simp [List.getD, List.getElem?_set, ho.2.1, hfj]
      · rcases hk with hk | hk
        · left
          simp only [List.getD, List.getElem?_set]
          rw [if_neg (fun h => e h.symm)]
          exact hk
        · right; omega
theorem patchLoop {B : List UInt8} (hB : B.length ≤ 2000000) {P : List (Int × List UInt8)} (hP : P.length ≤ 20000) (hg : ∀ p ∈ P, goodP B p) :
    ∀ (n k : Nat) (out : List UInt8) (has : List Bool), P.length - k = n → k ≤ P.length → okOH B out has →
      ∃ out' has', wire_Patch.l1 P (P.length : Int) (k : Int) out has = some (.inr (out', has')) ∧ okOH B out' has' ∧ ∀ i : Nat, (has.getD i false = true ∨ ∃ p ∈ P.drop k, p.1 ≤ (i : Int) ∧ (i : Int) < p.1 + (p.2.length : Int)) → has'.getD i false = true := by
  intro n
  induction n with
  | zero =>
    intro k out has hn hk ho
    refine ⟨out, has, loopX_done ?_, ho, fun i hi => ?_⟩
    · simp only [wire_Patch.s1, cb_dec]
      rw [if_neg (by omega)]
    · rcases hi with hi | ⟨p, hp, _⟩
      · exact hi
      · rw [List.drop_eq_nil_of_le (by omega)] at hp; cases hp
  | succ n ih =>
    intro k out has hn hk ho
    have hlt : k < P.length := by omega
    obtain ⟨f, t, h1, h2, h3⟩ := hg P[k] (List.getElem_mem hlt)
    obtain ⟨o1, b1, h4, h5, h6⟩ := patchIn hB h1 h2 (t - f) 0 out has (by omega) (by omega) ho
    obtain ⟨o2, b2, h7, h8, h9⟩ := ih (k + 1) o1 b1 (by omega) (by omega) h5
    have hlen : ((B.take t).drop f).length = t - f := by rw [List.length_drop, List.length_take]; omega
    refine ⟨o2, b2, (loopX_next ?_).trans h7, h8, fun i hi => h9 i ?_⟩
    · simp only [wire_Patch.s1, cb_dec, rd_lt hlt, h3, hlen]
      rw [show ((0 : Nat) : Int) = 0 from rfl] at h4
      rw [if_pos (by omega), ck_pos (by omega), h4, ob_s, caseS_r, ck_in (by omega) (by omega)]
      rfl
    · rcases hi with hi | ⟨p, hp, q1, q2⟩
      · left; exact h6 i (.inl hi)
      · rw [List.drop_eq_getElem_cons hlt] at hp
        rcases List.mem_cons.1 hp with e | hp
        · left
          rw [e, h3] at q1 q2
          simp only [hlen] at q1 q2
          exact h6 i (.inr ⟨by omega, by omega⟩)
        · right; exact ⟨p, hp, q1, q2⟩
theorem patchChk {B : List UInt8} (hB : B.length ≤ 2000000) {P : List (Int × List UInt8)} (hP : P.length ≤ 20000) (hg : ∀ p ∈ P, goodP B p) :
    ∀ (n k : Nat), P.length - k = n → k ≤ P.length → wire_Patch.l0 (B.length : Int) P (P.length : Int) (k : Int) = some (.inr ()) := by
  intro n
  induction n with
  | zero =>
    intro k hn hk
    refine loopX_done ?_
    simp only [wire_Patch.s0, cb_dec]
    rw [if_neg (by omega)]
  | succ n ih =>
    intro k hn hk
    have hlt : k < P.length := by omega
    obtain ⟨f, t, h1, h2, h3⟩ := hg P[k] (List.getElem_mem hlt)
    have hlen : ((B.take t).drop f).length = t - f := by rw [List.length_drop, List.length_take]; omega
    refine (loopX_next ?_).trans (ih (k + 1) (by omega) (by omega))
    simp only [wire_Patch.s0, cb_dec, cb_not, rd_lt hlt, h3, hlen, within_eq, ob_s]
    rw [if_pos (by omega), ck_pos (by omega), if_pos (by omega), ck_in (by omega) (by omega), if_neg (by omega), ck_in (by omega) (by omega)]
    rfl
theorem noFalse {l : List Bool} (hl : l.length ≤ 2000000) (h : ∀ k, k < l.length → l.getD k false = true) : slices_Contains_bool_bool.f l false = some false := by
  have go : ∀ (n k : Nat), l.length - k = n → k ≤ l.length → slices_Index_bool_bool.l0 l false (l.length : Int) (k : Int) = some (.inr ()) := by
    intro n
    induction n with
    | zero =>
      intro k hn hk
      refine loopX_done ?_
      simp only [slices_Index_bool_bool.s0, cb_dec]
      rw [if_neg (by omega)]
    | succ n ih =>
      intro k hn hk
      have hlt : k < l.length := by omega
      have e : l[k] = true := by have := h k hlt; simpa [List.getD, hlt] using this
      refine (loopX_next ?_).trans (ih (k + 1) (by omega) (by omega))
      simp only [slices_Index_bool_bool.s0, cb_dec, rd_lt hlt, e]
      rw [if_pos (by omega), ck_pos (by omega), ck_in (by omega) (by omega)]
      rfl
  have h0 := go l.length 0 (by omega) (by omega)
  rw [show ((0 : Nat) : Int) = 0 from rfl] at h0
  unfold slices_Contains_bool_bool.f slices_Index_bool_bool.f
  simp only [h0, ob_s, caseS_r]
  rfl
theorem equalB (l : List UInt8) (hl : l.length ≤ 1000000000000) : slices_Equal_byte_byte.f l l = some true := by
  have go : ∀ (n k : Nat), l.length - k = n → k ≤ l.length → slices_Equal_byte_byte.l0 l l (l.length : Int) (k : Int) = some (.inr ()) := by
    intro n
    induction n with
    | zero =>
      intro k hn hk
      refine loopX_done ?_
      simp only [slices_Equal_byte_byte.s0, cb_dec]
      rw [if_neg (by omega)]
    | succ n ih =>
      intro k hn hk
      have hlt : k < l.length := by omega
      refine (loopX_next ?_).trans (ih (k + 1) (by omega) (by omega))
      simp only [slices_Equal_byte_byte.s0, cb_dec, rd_lt hlt]
      have hb : 0 ≤ (k : Int) ∧ (k : Int) < (l.length : Int) := by omega
      simp only [ck_pos hb, if_pos hb.2, decide_true, Bool.not_true, cb_f]
      rw [ck_in (by omega) (by omega)]
      rfl
  unfold slices_Equal_byte_byte.f
  have := go l.length 0 (by omega) (by omega)
  rw [show ((0 : Nat) : Int) = 0 from rfl] at this
  simp only [decide_true, Bool.not_true, cb_f, this, ob_s, caseS_r]
/-- Parts that lie over all of B are put together to B. -/
theorem patch_ok {B : List UInt8} (hB : B.length ≤ 2000000) {P : List (Int × List UInt8)} (hP : P.length ≤ 20000) (hg : ∀ p ∈ P, goodP B p) (hc : coverP P B.length) : wire_Patch.f P (B.length : Int) = some (B, 0) := by
  have h0 := patchChk hB hP hg P.length 0 (by omega) (by omega)
  have hrep : okOH B (List.replicate B.length 0) (List.replicate B.length false) := by
    refine ⟨by simp, by simp, fun k hk => ?_⟩
    simp only [List.getD, List.getElem?_replicate] at hk
    split at hk <;> cases hk
  obtain ⟨out, has, h1, h2, h3⟩ := patchLoop hB hP hg P.length 0 _ _ (by omega) (by omega) hrep
  have hall : ∀ k, k < has.length → has.getD k false = true := fun k hk => h3 k (.inr (by
    obtain ⟨p, hp, h4⟩ := hc k (by rw [← h2.2.1]; exact hk)
    exact ⟨p, by simpa using hp, h4⟩))
  have hout : out = B := by
    apply List.ext_getElem h2.1
    intro k hk1 hk2
    have := h2.2.2 k (hall k (by rw [h2.2.1]; exact hk2))
    simpa [List.getD, hk1, hk2] using this
  unfold wire_Patch.f
  rw [show ((0 : Nat) : Int) = 0 from rfl] at h0 h1
  simp only [within_eq, ob_s, cb_not, cb_dec, dup_eq, Int.toNat_natCast]
  rw [if_pos (by omega), if_neg (by omega), h0, ob_s, caseS_r, ck_pos (by omega), ck_pos (by omega), h1, ob_s, caseS_r, noFalse (by rw [h2.2.1]; exact hB) hall, ob_s, cb_f, hout]
theorem clone_o {l : List Int} (h : l.length * 8 ≤ 140737488355328) : slices_Clone_int_int_o.f l = some l := by
  unfold slices_Clone_int_int_o.f
  rw [ck_pos (by simpa using h), List.nil_append]
  by_cases hl : l = []
  · subst hl; exact nq_same
  · unfold nq; rw [if_pos hl]
theorem law_PP (B : List UInt8) (cuts : List Int) : law8_WirePatchPutsTogether.f B cuts = some true := by
  unfold law8_WirePatchPutsTogether.f
  simp only [awake_eq, ob_s, cb_dec]
  by_cases h1 : 2000000 < (B.length : Int)
  · rw [if_pos h1]
  · rw [if_neg h1]
    by_cases h2 : 1000 < (cuts.length : Int)
    · rw [if_pos h2]
    · have hB : B.length ≤ 2000000 := by omega
      have hlen : (cuts.length + [(-1 : Int)].length) * 8 ≤ 140737488355328 := by simp; omega
      rw [if_neg h2, clone_o (by omega), ob_s, ck_pos hlen]
      obtain ⟨P', h3, h4, h5, h6⟩ := partsLoop hB (cs := cuts ++ [-1]) (o2 := [-1]) (by simp; omega) (fun h => by simp) (cuts ++ [-1]).length 0 0 [] (by omega) (by omega) (by omega) (fun p hp => by cases hp) (fun i hi => by omega) rfl (fun h => by simp at h)
      rw [show ((0 : Nat) : Int) = 0 from rfl] at h3
      rw [h3, ob_s]
      simp only [patch_ok hB (show P'.length ≤ 20000 by omega) h4 h5, ob_s, if_true]
      rw [equalB B (by omega), ob_s, cb_t]
end Go.Proofs.Ytpeiomhgaembaaa
set_option linter.unusedVariables false
set_option linter.unusedSimpArgs false
namespace Go.Proofs.Ytpeiomhgaembaaa
open Go Go.Proofs.Ytpeiomhgaembaaa.Eng
theorem i64w {r : Int} (h1 : -9223372036854775808 ≤ r) (h2 : r ≤ 9223372036854775807) : IntKind.wrap .i64 r = r := IntWalk.i64_in r ⟨h1, h2⟩
theorem equalB2 (a b : List UInt8) (ha : a.length ≤ 1000000000000000) : slices_Equal_byte_byte.f a b = some (decide (a = b)) := by
  have go : ∀ (n k : Nat), a.length = b.length → a.length - k = n → k ≤ a.length → slices_Equal_byte_byte.l0 a b (a.length : Int) (k : Int) = some (if a.drop k = b.drop k then .inr () else .inl false) := by
    intro n
    induction n with
    | zero =>
      intro k hab hn hk
      obtain rfl : k = a.length := by omega
      refine loopX_done ?_
      simp only [slices_Equal_byte_byte.s0, cb_dec]
      rw [if_neg (by omega), List.drop_length, hab, List.drop_length, if_pos rfl]
    | succ n ih =>
      intro k hab hn hk
      have hlt : k < a.length := by omega
      have hlt2 : k < b.length := by omega
      have ihk := ih (k + 1) hab (by omega) (by omega)
      rw [List.drop_eq_getElem_cons hlt, List.drop_eq_getElem_cons hlt2]
      by_cases he : a[k] = b[k]
      · refine (loopX_next (x' := ((k + 1 : Nat) : Int)) ?_).trans (ihk.trans ?_)
        · simp only [slices_Equal_byte_byte.s0, cb_dec, cb_not, rd_lt hlt, rd_lt hlt2]
          rw [if_pos (by omega), ck_pos (by omega), ck_pos (by omega), if_pos (by rw [he]), ck_in (by omega) (by omega)]
          rfl
        · congr 1; simp only [List.cons.injEq, he, true_and]
      · refine loopX_done ?_
        simp only [slices_Equal_byte_byte.s0, cb_dec, cb_not, rd_lt hlt, rd_lt hlt2]
        have hne : ¬ (((UInt8.toNat a[k] : Nat) : Int) = ((UInt8.toNat b[k] : Nat) : Int)) := fun h => he (UInt8.toNat_inj.1 (by omega))
        rw [if_pos (by omega), ck_pos (by omega), ck_pos (by omega), if_neg hne, if_neg (fun h => he (List.cons.inj h).1)]
  unfold slices_Equal_byte_byte.f
  simp only [cb_not, cb_dec]
  by_cases hl : a.length = b.length
  · rw [if_pos (by omega), show (0 : Int) = ((0 : Nat) : Int) from rfl, go a.length 0 hl (by omega) (by omega), ob_s]
    simp only [List.drop_zero]
    by_cases h : a = b
    · rw [if_pos h, caseS_r]; simp [h]
    · rw [if_neg h, caseS_l]; simp [h]
  · rw [if_neg (by omega)]
    have : a ≠ b := fun h => hl (by rw [h])
    simp [this]
theorem bstr_inj {a b : List UInt8} : (bstr a = bstr b) = (a = b) := by
  apply propext
  constructor
  · intro h
    have h1 := congrArg ByteArray.data h
    simpa [bstr] using h1
  · rintro rfl; rfl
theorem has_eq (l : List (List UInt8)) (b : List UInt8) (hl : l.length ≤ 1000000000000000) (he : ∀ x ∈ l, x.length ≤ 1000000000000000) : ref8_has.f l b = some (decide (b ∈ l)) := by
  have go : ∀ (n k : Nat), l.length - k = n → k ≤ l.length → ref8_has.l0 b l (l.length : Int) (k : Int) = some (if b ∈ l.drop k then .inl true else .inr ()) := by
    intro n
    induction n with
    | zero =>
      intro k hn hk
      obtain rfl : k = l.length := by omega
      refine loopX_done ?_
      simp only [ref8_has.s0, cb_dec]
      rw [if_neg (by omega), List.drop_length]
      simp
    | succ n ih =>
      intro k hn hk
      have hlt : k < l.length := by omega
      have ihk := ih (k + 1) (by omega) (by omega)
      have hlen := he l[k] (List.getElem_mem hlt)
      rw [List.drop_eq_getElem_cons hlt]
      by_cases hb : l[k] = b
      · refine loopX_done ?_
        simp only [ref8_has.s0, cb_dec, rd_lt hlt, equalB2 _ _ hlen, ob_s]
        rw [if_pos (by omega), ck_pos (by omega), if_pos hb]
        simp [hb]
      · refine (loopX_next (x' := ((k + 1 : Nat) : Int)) ?_).trans (ihk.trans ?_)
        · simp only [ref8_has.s0, cb_dec, rd_lt hlt, equalB2 _ _ hlen, ob_s]
          rw [if_pos (by omega), ck_pos (by omega), if_neg hb, ck_in (by omega) (by omega)]
          rfl
        · have hb' : ¬ b = l[k] := fun h => hb h.symm
          simp only [List.mem_cons, hb', false_or]
  unfold ref8_has.f
  simp only
  rw [show (0 : Int) = ((0 : Nat) : Int) from rfl, go l.length 0 (by omega) (by omega), ob_s, List.drop_zero]
  by_cases h : b ∈ l
  · rw [if_pos h, caseS_l]; simp [h]
  · rw [if_neg h, caseS_r]; simp [h]
/-- A list's bytes. -/
def tot (l : List (List UInt8)) : Nat := (l.map List.length).sum
def sumW (s : Int) : List (List UInt8) → Int
  | [] => s
  | x :: l => sumW (IntKind.wrap .i64 (s + (x.length : Int))) l
theorem sumW_tot : ∀ (l : List (List UInt8)) (s : Int), 0 ≤ s → s + (l.length : Int) * 140737488355328 ≤ 9223372036854775807 → (∀ x ∈ l, x.length ≤ 140737488355328) → sumW s l = s + (tot l : Int)
  | [], s, _, _, _ => by simp [sumW, tot]
  | x :: l, s, h0, h1, h2 => by
    have hx := h2 x (List.mem_cons_self ..)
    have e : ((x :: l).length : Int) * 140737488355328 = 140737488355328 + (l.length : Int) * 140737488355328 := by simp; omega
    rw [e] at h1
    rw [sumW, i64w (by omega) (by omega), sumW_tot l _ (by omega) (by omega) (fun y hy => h2 y (List.mem_cons_of_mem _ hy))]
    simp [tot]; omega
theorem check_loop (l : List (List UInt8)) (hl : l.length ≤ 1000000000000000) : ∀ (n k : Nat) (s : Int), l.length - k = n → k ≤ l.length → wire_checkPieces.l0 l (l.length : Int) s (k : Int) = some (sumW s (l.drop k)) := by
  intro n
  induction n with
  | zero =>
    intro k s hn hk
    obtain rfl : k = l.length := by omega
    refine loopX_done ?_
    simp only [wire_checkPieces.s0, cb_dec]
    rw [if_neg (by omega), List.drop_length]
    rfl
  | succ n ih =>
    intro k s hn hk
    have hlt : k < l.length := by omega
    rw [List.drop_eq_getElem_cons hlt]
    refine (loopX_next ?_).trans (ih (k + 1) _ (by omega) (by omega))
    simp only [wire_checkPieces.s0, cb_dec, rd_lt hlt]
    rw [if_pos (by omega), ck_pos (by omega), i64w (r := (k : Int) + 1) (by omega) (by omega)]
    rfl
def checkF (l : List (List UInt8)) : Int := if 20000 < l.length then 2 else if 2000000 < sumW 0 l then 2 else 0
theorem check_eq (l : List (List UInt8)) (hl : l.length ≤ 1000000000000000) : wire_checkPieces.f l = some (checkF l) := by
  unfold wire_checkPieces.f checkF
  simp only
  rw [show (0 : Int) = ((0 : Nat) : Int) from rfl, check_loop l hl l.length 0 _ (by omega) (by omega), ob_s, List.drop_zero, cb_dec]
  by_cases h : 20000 < l.length
  · rw [if_pos (by omega), if_pos h]
  · rw [if_neg (by omega), if_neg h, cb_dec]
    by_cases h2 : 2000000 < sumW 0 l
    · simp [h2]
    · simp [h2]
theorem check8_eq : ref8_checkPieces.f = wire_checkPieces.f := rfl
theorem check_ok {l : List (List UInt8)} (he : ∀ x ∈ l, x.length ≤ 140737488355328) (h : checkF l = 0) : l.length ≤ 20000 ∧ tot l ≤ 2000000 := by
  unfold checkF at h
  split at h
  · cases h
  · split at h
    · cases h
    · rename_i h1 h2
      rw [sumW_tot l 0 (by omega) (by omega) he] at h2
      exact ⟨by omega, by omega⟩
def hasM (m : List (ByteArray × Bool)) (x : List UInt8) : Bool := Option.getD (mget (bstr x) m) false
theorem mget_mset {α : Type} (k k' : ByteArray) (v : α) : ∀ es : List (ByteArray × α), mget k (mset k' v es) = if k = k' then some v else mget k es
  | [] => by
    by_cases h : k = k' <;> simp [mset, mget, h]
  | p :: r => by
    have ih := mget_mset k k' v r
    simp only [mset]
    cases h1 : decide (k' = p.1) with
    | true =>
      have h1 := of_decide_eq_true h1
      by_cases h : k = k'
      · simp [mget, h]
      · have : ¬ k = p.1 := fun e => h (e.trans h1.symm)
        simp [mget, h, this]
    | false =>
      have h1 := of_decide_eq_false h1
      by_cases h : k = p.1
      · have : ¬ k = k' := fun e => h1 (e.symm.trans h)
        subst h
        simp [mget, this]
      · simp only [mget, decide_eq_false h, ih]
theorem hasM_set (m : List (ByteArray × Bool)) (x y : List UInt8) : hasM (mset (bstr y) true m) x = (decide (x = y) || hasM m x) := by
  unfold hasM
  rw [mget_mset]
  by_cases h : x = y
  · subst h; simp
  · rw [if_neg (fun h' => h (bstr_inj.mp h'))]; simp [h]
theorem old_loop (l : List (List UInt8)) (hl : l.length ≤ 20000) : ∀ (n k : Nat) (m : List (ByteArray × Bool)), l.length - k = n → k ≤ l.length →
    ∃ m', wire_Fresh.l0 l (l.length : Int) (k : Int) m = some m' ∧ ∀ x, hasM m' x = (hasM m x || decide (x ∈ l.drop k)) := by
  intro n
  induction n with
  | zero =>
    intro k m hn hk
    obtain rfl : k = l.length := by omega
    refine ⟨m, loopX_done ?_, fun x => by simp⟩
    simp only [wire_Fresh.s0, cb_dec]
    rw [if_neg (by omega)]
  | succ n ih =>
    intro k m hn hk
    have hlt : k < l.length := by omega
    obtain ⟨m', h1, h2⟩ := ih (k + 1) (mset (bstr l[k]) true m) (by omega) (by omega)
    refine ⟨m', (loopX_next ?_).trans h1, fun x => ?_⟩
    · simp only [wire_Fresh.s0, cb_dec, rd_lt hlt]
      rw [if_pos (by omega), ck_pos (by omega), ck_in (by omega) (by omega)]
      rfl
    · have e : decide (x ∈ l.drop k) = (decide (x = l[k]) || decide (x ∈ l.drop (k + 1))) := by
        rw [List.drop_eq_getElem_cons hlt]; simp only [List.mem_cons, Bool.decide_or]
      rw [h2, hasM_set, e]
      cases hasM m x <;> cases decide (x = l[k]) <;> rfl
theorem tot_drop {l : List (List UInt8)} {k : Nat} (h : k < l.length) : tot (l.drop k) = l[k].length + tot (l.drop (k + 1)) := by
  unfold tot
  rw [List.drop_eq_getElem_cons h, List.map_cons, List.sum_cons]
theorem new_loop (old now : List (List UInt8)) (ho : old.length ≤ 20000) (hn0 : now.length ≤ 20000) (heo : ∀ x ∈ old, x.length ≤ 1000000000000000) (hen : ∀ x ∈ now, x.length ≤ 1000000000000000) :
    ∀ (n k : Nat) (s : Int) (m : List (ByteArray × Bool)) (o : List Int), now.length - k = n → k ≤ now.length → 0 ≤ s → s + (tot (now.drop k) : Int) ≤ 2000000 → o.length ≤ k → (∀ x, hasM m x = decide (x ∈ old ∨ x ∈ now.take k)) →
      ∃ s' m' o', wire_Fresh.l1 now (now.length : Int) s (k : Int) m o = some (s', m', o') ∧ ref8_Fresh.l0 old now now (now.length : Int) s (k : Int) o = some (s', o') ∧ o'.length ≤ 20000 := by
  intro n
  induction n with
  | zero =>
    intro k s m o hn hk hs ht hol hm
    obtain rfl : k = now.length := by omega
    refine ⟨s, m, o, loopX_done ?_, loopX_done ?_, by omega⟩
    · simp only [wire_Fresh.s1, cb_dec]
      rw [if_neg (by omega)]
    · simp only [ref8_Fresh.s0, cb_dec]
      rw [if_neg (by omega)]
  | succ n ih =>
    intro k s m o hn hk hs ht hol hm
    have hlt : k < now.length := by omega
    rw [tot_drop hlt] at ht
    have htake : now.take (k + 1) = now.take k ++ [now[k]] := by rw [List.take_add_one, List.getElem?_eq_getElem hlt]; rfl
    have e1 : ref8_has.f old now[k] = some (decide (now[k] ∈ old)) := has_eq _ _ (by omega) heo
    have e2 : ref8_has.f (now.take k) now[k] = some (decide (now[k] ∈ now.take k)) := has_eq _ _ (by rw [List.length_take]; omega) (fun x hx => hen x (List.mem_of_mem_take hx))
    have hmk := hm now[k]
    have ek : Int.toNat (k : Int) = k := by omega
    by_cases hin : now[k] ∈ old ∨ now[k] ∈ now.take k
    · obtain ⟨s', m', o', h1, h2, h3⟩ := ih (k + 1) s m o (by omega) (by omega) hs (by omega) (by omega) (fun x => by
        rw [hm x, htake]
        congr 1
        apply propext
        constructor
        · rintro (h | h)
          · exact .inl h
          · exact .inr (List.mem_append_left _ h)
        · rintro (h | h)
          · exact .inl h
          · rcases List.mem_append.1 h with h | h
            · exact .inr h
            · rw [List.mem_singleton.1 h]; exact hin)
      refine ⟨s', m', o', (loopX_next ?_).trans h1, (loopX_next ?_).trans h2, h3⟩
      · have hb : Option.getD (mget (bstr now[k]) m) false = true := by
          have : hasM m now[k] = true := by rw [hmk]; exact decide_eq_true hin
          exact this
        simp only [wire_Fresh.s1, cb_dec, cb_not, rd_lt hlt, hb, cb_t]
        rw [if_pos (by omega), ck_pos (by omega), ck_in (by omega) (by omega)]
        rfl
      · simp only [ref8_Fresh.s0, cb_dec, cb_not, rd_lt hlt, ek, e1, e2, ob_s]
        rw [if_pos (by omega), ck_pos (by omega)]
        by_cases h4 : now[k] ∈ old
        · rw [if_pos h4, ck_in (by omega) (by omega)]
          rfl
        · rw [if_neg h4, ck_pos (by omega), if_pos (hin.resolve_left h4), ck_in (by omega) (by omega)]
          rfl
    · have h4 : ¬ now[k] ∈ old := fun h => hin (.inl h)
      have h5 : ¬ now[k] ∈ now.take k := fun h => hin (.inr h)
      obtain ⟨s', m', o', h1, h2, h3⟩ := ih (k + 1) (s + (now[k].length : Int)) (mset (bstr now[k]) true m) (o ++ [(k : Int)]) (by omega) (by omega) (by omega) (by omega) (by simp; omega) (fun x => by
        rw [hasM_set, hm x, htake]
        simp only [List.mem_append, List.mem_singleton, Bool.decide_or]
        cases decide (x = now[k]) <;> cases decide (x ∈ old) <;> cases decide (x ∈ List.take k now) <;> rfl)
      have hlen : (o.length + List.length ([(k : Int)] : List Int)) * 8 ≤ 140737488355328 := by simp; omega
      refine ⟨s', m', o', (loopX_next ?_).trans h1, (loopX_next ?_).trans h2, h3⟩
      · have hb : Option.getD (mget (bstr now[k]) m) false = false := by
          have : hasM m now[k] = false := by rw [hmk]; exact decide_eq_false hin
          exact this
        simp only [wire_Fresh.s1, cb_dec, cb_not, rd_lt hlt, hb, cb_f]
        rw [if_pos (by omega), ck_pos (by omega), ck_pos hlen, ck_in (by omega) (by omega), ck_in (by omega) (by omega)]
        rfl
      · simp only [ref8_Fresh.s0, cb_dec, cb_not, rd_lt hlt, ek, e1, e2, ob_s]
        rw [if_pos (by omega), ck_pos (by omega), if_neg h4, ck_pos (by omega), if_neg h5, ck_pos hlen, ck_in (by omega) (by omega), ck_in (by omega) (by omega)]
        rfl
theorem fresh_same (old now : List (List UInt8)) (ho : old.length ≤ 1000000000000000) (hn : now.length ≤ 1000000000000000) (heo : ∀ x ∈ old, x.length ≤ 140737488355328) (hen : ∀ x ∈ now, x.length ≤ 140737488355328) :
    ∃ r, wire_Fresh.f old now = some r ∧ ref8_Fresh.f old now = some r ∧ r.1.length ≤ 20000 := by
  unfold wire_Fresh.f ref8_Fresh.f
  rw [check8_eq, check_eq old ho, check_eq now hn]
  simp only [ob_s, cb_not, cb_dec]
  by_cases h1 : checkF old = 0
  · by_cases h2 : checkF now = 0
    · rw [if_pos h1, if_pos h2, if_pos h1, if_pos h2]
      obtain ⟨a1, a2⟩ := check_ok heo h1
      obtain ⟨b1, b2⟩ := check_ok hen h2
      obtain ⟨m, h3, h4⟩ := old_loop old a1 old.length 0 [] (by omega) (by omega)
      obtain ⟨s', m', o', h5, h6, h7⟩ := new_loop old now a1 b1 (fun x hx => Nat.le_trans (heo x hx) (by omega)) (fun x hx => Nat.le_trans (hen x hx) (by omega)) now.length 0 0 m [] (by omega) (by omega) (by omega) (by rw [List.drop_zero]; omega) (by simp) (fun x => by rw [h4]; simp [hasM, mget])
      have e0 : ((0 : Nat) : Int) = 0 := rfl
      rw [e0] at h3 h5 h6
      rw [h3, ob_s, h5, ob_s, h6, ob_s]
      exact ⟨_, rfl, rfl, h7⟩
    · rw [if_pos h1, if_neg h2, if_pos h1, if_neg h2]
      exact ⟨_, rfl, rfl, by simp⟩
  · rw [if_neg h1, if_neg h1]
    exact ⟨_, rfl, rfl, by simp⟩
theorem copy_eq (l : List (List UInt8)) (hl : l.length * 24 ≤ 140737488355328) (he : ∀ x ∈ l, x.length ≤ 140737488355328) : ref1_CopyPieces.f l = some l := by
  have go : ∀ (n k : Nat), l.length - k = n → k ≤ l.length → ref1_CopyPieces.l0 l (k : Int) (l.take k) = some l := by
    intro n
    induction n with
    | zero =>
      intro k hn hk
      obtain rfl : k = l.length := by omega
      refine loopX_done ?_
      simp only [ref1_CopyPieces.s0, cb_dec]
      rw [if_neg (by omega), List.take_length]
    | succ n ih =>
      intro k hn hk
      have hlt : k < l.length := by omega
      have htake : l.take (k + 1) = l.take k ++ [l[k]] := by rw [List.take_add_one, List.getElem?_eq_getElem hlt]; rfl
      have hx := he l[k] (List.getElem_mem hlt)
      refine (loopX_next ?_).trans (ih (k + 1) (by omega) (by omega))
      have hc : ref1_CopyBytes.f l[k] = some l[k] := by unfold ref1_CopyBytes.f; rw [ck_pos (by omega)]
      have hlen : ((l.take k).length + List.length ([l[k]] : List (List UInt8))) * 24 ≤ 140737488355328 := by rw [List.length_take]; simp; omega
      simp only [ref1_CopyPieces.s0, cb_dec, rd_lt hlt, hc, ob_s]
      rw [if_pos (by omega), ck_pos (by omega), ck_pos hlen, ck_in (by omega) (by omega), htake]
      rfl
  unfold ref1_CopyPieces.f
  have := go l.length 0 (by omega) (by omega)
  rw [List.take_zero] at this
  rw [show (0 : Int) = ((0 : Nat) : Int) from rfl, this]
  rfl
theorem same_eq (l : List (List UInt8)) (hl : l.length ≤ 1000000000000000) : ref1_SamePieces.f l l = some true := by
  have go : ∀ (n k : Nat), l.length - k = n → k ≤ l.length → ref1_SamePieces.l0 l l (k : Int) = some (.inr ()) := by
    intro n
    induction n with
    | zero =>
      intro k hn hk
      refine loopX_done ?_
      simp only [ref1_SamePieces.s0, cb_dec]
      rw [if_neg (by omega)]
    | succ n ih =>
      intro k hn hk
      have hlt : k < l.length := by omega
      refine (loopX_next ?_).trans (ih (k + 1) (by omega) (by omega))
      simp only [ref1_SamePieces.s0, cb_dec, cb_not, rd_lt hlt, bytes_Equal.f, ob_s]
      rw [if_pos (by omega), ck_pos (by omega), ck_pos (by omega), if_pos trivial, ck_in (by omega) (by omega)]
      rfl
  unfold ref1_SamePieces.f
  have := go l.length 0 (by omega) (by omega)
  rw [show ((0 : Nat) : Int) = 0 from rfl] at this
  simp only [decide_true, Bool.not_true, cb_f, this, ob_s, caseS_r]
theorem law_FM (old now : List (List UInt8)) (ho : old.length * 24 ≤ 140737488355328) (hn : now.length * 24 ≤ 140737488355328) (heo : ∀ x ∈ old, x.length ≤ 140737488355328) (hen : ∀ x ∈ now, x.length ≤ 140737488355328) : law8_WireFreshMatchesSpec.f old now = some true := by
  obtain ⟨r, h1, h2, h3⟩ := fresh_same old now (by omega) (by omega) heo hen
  unfold law8_WireFreshMatchesSpec.f
  rw [copy_eq old ho heo, ob_s, copy_eq now hn hen, ob_s, h1, ob_s, h2, ob_s]
  simp only [decide_true, cb_t, equalI r.1 (by omega), same_eq old (by omega), same_eq now (by omega), ob_s, awake_eq]
end Go.Proofs.Ytpeiomhgaembaaa
set_option linter.unusedVariables false
set_option linter.unusedSimpArgs false
set_option maxRecDepth 100000
set_option maxHeartbeats 4000000
namespace Go.Proofs.Ytpeiomhgaembaaa
open Go Go.RowKit Go.ChangeShapes Go.WideShapes Go.ChangeAt Go.Proofs.Ytpeiomhgaembaaa.Eng
theorem own : ownKnob Try.prog.godebug = none := by kernel_rfl
theorem laidOut : laidOutB Try.prog = true := by kernel_rfl
theorem pieces_in (l : List (List UInt8)) (h : List.length l * 24 ≤ reachBytes ∧ ∀ x : List UInt8, List.Mem x l → List.length x * 1 ≤ reachBytes ∧ ∀ y : UInt8, List.Mem y x → True) : l.length * 24 ≤ 140737488355328 ∧ ∀ x ∈ l, x.length ≤ 140737488355328 := by
  have hr : reachBytes ≤ 140737488355328 := by decide +kernel
  exact ⟨Nat.le_trans h.1 hr, fun x hx => Nat.le_trans (by have := (h.2 x hx).1; omega) hr⟩
theorem law_FM' (x : List (List UInt8) × List (List UInt8)) (hx : InA T 6 [39, 39] [.slice (.slice .byte), .slice (.slice .byte)] x) : law8_WireFreshMatchesSpec.f x.1 x.2 = some true :=
  have h1 := pieces_in x.1 hx.1
  have h2 := pieces_in x.2 hx.2
  law_FM x.1 x.2 h1.1 h2.1 h1.2 h2.2
theorem wireFreshMatchesSpec_av (xs : List AV) (h : ShapeA T 6 [39,39] xs) : FPure Try.prog 5 xs (.v (.bool true)) :=
  law_typed (T := T) (m := 6) (ts := [39,39]) law8_WireFreshMatchesSpec.ok (by kernel_rfl) (fun x hx => law_FM' x hx) xs h
theorem wireFreshMatchesSpec_lifted (os : Os) (started : os.Started) (H : Type) (enc : TypeId × Value → H) :
    ReturnsInHanded {} Try.checked os 5 .any (Rows.wireFreshMatchesSpecSpec.pre6 enc Try.prog Try.f5 Rows.wireFreshMatchesSpecRow.domain false) (Rows.wireFreshMatchesSpecSpec.post enc Try.prog Try.f5 false true false false) := by
  refine returnsInHanded_of_change_sized (C := Try.checked) own started (by kernel_rfl) Try.func5
    (ChangeSpec.witness6 (enc := enc) (C := Try.checked) false ⟨#[], #[.slice none 0 0, .slice none 0 0], []⟩ 8 (by kernel_rfl) (by kernel_rfl) (by kernel_rfl) (by kernel_rfl)) ?_
  intro W base args ds gs before hval0 hW hcnd hsz0 _
  have hW' := hW
  obtain ⟨p, q, hA0, hV, rfl, hfz, hnd⟩ := hW
  have hsz : (DataW.weightsEach Try.prog (Try.f5.params.toList ++ Rows.wireFreshMatchesSpecSpec.plain.varTypes Try.prog) (ds ++ gs)).all (· ≤ reachBytes) = true := hsz0
  have hA : DataW.TrodAll enc Try.prog W 0 (fun _ => true) true [39,39] args.toList ds p := hA0
  obtain ⟨rfl, rfl⟩ := trodVars_none hV
  have hlaw := law_calls (r := .any) (b0 := base) tabOK laidOut wireFreshMatchesSpec_av (by decide +kernel) (by kernel_rfl) hA (fun j t v h1 h2 => hval0 j t v (by simpa using h1) (by simpa using h2)) (by rw [List.append_nil] at hsz; exact hsz)
  simp only [Array.toArray_toList] at hlaw
  refine hlaw.mono fun e W' ⟨he, bel, hback⟩ => ?_
  subst he
  obtain ⟨d1, d2, hds⟩ : ∃ d1 d2, ds = [d1, d2] := by
    obtain ⟨_, _, d1, _, _, _, _, rfl, _, _, h⟩ := trodAll_cons hA
    obtain ⟨_, _, d2, _, _, _, _, rfl, _, _, h⟩ := trodAll_cons h
    obtain ⟨_, rfl, _⟩ := trodAll_nil h
    exact ⟨d1, d2, rfl⟩
  subst hds
  exact ⟨_, rfl, _, _, _, [], _, [], hW', trodAll_mk1 (shut_bool Try.underlying4 _), hback, rfl, bel.frame _, fun h => by cases h⟩
theorem wireFreshMatchesSpec_over : Rows.wireFreshMatchesSpecRow.holds Try.pinned (OpenSpec.ofChange Rows.wireFreshMatchesSpecSpec) :=
  OpenClaim.holds_of_wide 5 Try.f5 rfl rfl rfl rfl rfl rfl rfl ⟨rfl, rfl, rfl, rfl, rfl⟩ rfl rfl rfl rfl rfl (by kernel_rfl) Try.func5 (by kernel_rfl)
    (of_decide_eq_true (by kernel_rfl)) (by unfold Func.isWrapper; first | (rw [if_pos (by decide +kernel)]; kernel_rfl) | (rw [if_neg (by decide +kernel)]; exact ⟨rfl, rfl⟩))
    (fun os started H enc _ => wireFreshMatchesSpec_lifted os started H enc)
theorem wireFreshMatchesSpec_holds : Rows.WireFreshMatchesSpecSaid := wireFreshMatchesSpec_over
end Go.Proofs.Ytpeiomhgaembaaa
