/-
  The law WireQuotasMatchSpec hands back true for every argument, and leaves its arguments as they were. No condition.
-/
import Derived.Test.YtpeiomhgaembaaaFun
import Derived.Test.YtpeiomhgaembaaaTypB
import Derived.Test.YtpeiomhgaembaaaRows
set_option linter.unusedVariables false
set_option linter.unusedSimpArgs false
namespace Go.Proofs.Ytpeiomhgaembaaa
open Go Go.Proofs.Ytpeiomhgaembaaa.Eng
def quotaF (r b : Int) : Int := if (1 ≤ r ∧ r ≤ 1000000000) ∧ (1 ≤ b ∧ b ≤ 1000000000) then 0 else 1
def lowB (p : Option Int) (t : Int) : Bool := match p with | some q => decide (t < q) | none => false
def asksFault (b : Int) : Option Int → List (Int × Int) → Int
  | _, [] => 0
  | p, x :: l => if ¬ ((0 ≤ x.1 ∧ x.1 ≤ 1000000000) ∧ 0 ≤ x.2 ∧ x.2 ≤ b) then 1 else if lowB p x.1 then 8 else asksFault b (some x.1) l
theorem within_eq (a b c : Int) : wire_within.f a b c = some (decide (b ≤ a ∧ a ≤ c)) := by
  unfold wire_within.f
  rw [cb_dec]
  by_cases h : b ≤ a <;> simp [h]
theorem within8_eq (a b c : Int) : ref8_within.f a b c = some (decide (b ≤ a ∧ a ≤ c)) := by
  unfold ref8_within.f
  rw [cb_dec]
  by_cases h : b ≤ a <;> simp [h]
theorem quota_eq (r b : Int) : wire_CheckQuota.f (r, b) = some (quotaF r b) := by
  unfold wire_CheckQuota.f quotaF
  simp only [within_eq, ob_s, cb_not, cb_dec]
  by_cases h1 : 1 ≤ r ∧ r ≤ 1000000000 <;> by_cases h2 : 1 ≤ b ∧ b ≤ 1000000000 <;> simp [h1, h2]
theorem quota8_eq (r b : Int) : ref8_CheckQuota.f (r, b) = some (quotaF r b) := by
  unfold ref8_CheckQuota.f quotaF
  simp only [within8_eq, ob_s, cb_not, cb_dec]
  by_cases h1 : 1 ≤ r ∧ r ≤ 1000000000 <;> by_cases h2 : 1 ≤ b ∧ b ≤ 1000000000 <;> simp [h1, h2]
def prevA (l : List (Int × Int)) (k : Nat) : Option Int := if k = 0 then none else (l[k - 1]?).map (·.1)
def faultR (f : Int) : ((List Int) × Int) ⊕ Unit := if f = 0 then .inr () else .inl ([], f)
theorem checks (r b : Int) (l : List (Int × Int)) (hl : l.length ≤ 2000) : ∀ (n k : Nat), l.length - k = n → k ≤ l.length → wire_Starts.l0 l (r, b) l (l.length : Int) (k : Int) = some (faultR (asksFault b (prevA l k) (l.drop k))) := by
  intro n
  induction n with
  | zero =>
    intro k hn hk
    obtain rfl : k = l.length := by omega
    refine loopX_done ?_
    simp only [wire_Starts.s0, cb_dec]
    rw [if_neg (by omega), List.drop_length]
    rfl
  | succ n ih =>
    intro k hn hk
    have hlt : k < l.length := by omega
    have hd : l.drop k = l[k] :: l.drop (k + 1) := List.drop_eq_getElem_cons hlt
    have ihk := ih (k + 1) (by omega) (by omega)
    have hnext : prevA l (k + 1) = some l[k].1 := by simp [prevA, hlt]
    rw [hnext] at ihk
    rw [hd]
    have fin : wire_Starts.s0 l (r, b) l (l.length : Int) (k : Int) = if asksFault b (prevA l k) [l[k]] = 0 then some (.inl ((k : Int) + 1)) else some (.inr (.inl ([], asksFault b (prevA l k) [l[k]]))) := by
      simp only [wire_Starts.s0, cb_dec, cb_not, within_eq, ob_s, rd_lt hlt]
      rw [if_pos (by omega), ck_pos (by omega)]
      simp only [asksFault]
      by_cases h1 : 0 ≤ l[k].1 ∧ l[k].1 ≤ 1000000000
      · by_cases h2 : 0 ≤ l[k].2 ∧ l[k].2 ≤ b
        · simp only [h1, h2, and_self, not_true_eq_false, if_true, if_false]
          by_cases hk0 : k = 0
          · subst hk0
            rw [if_neg (by omega), ck_in (by omega) (by omega)]
            simp [prevA, lowB]
          · have hp : prevA l k = some l[k - 1].1 := by simp [prevA, hk0, List.getElem?_eq_getElem (show k - 1 < l.length by omega)]
            have hr : rd ((0 : Int), (0 : Int)) l ((k : Int) - 1) = l[k - 1] := by
              rw [show (k : Int) - 1 = ((k - 1 : Nat) : Int) by omega, rd_lt (by omega)]
            rw [if_pos (by omega), ck_in (by omega) (by omega), ck_pos (by omega), hr, ck_in (by omega) (by omega), hp]
            simp only [lowB, decide_eq_true_eq]
            by_cases h3 : l[k].1 < l[k - 1].1 <;> simp [h3]
        · simp [h1, h2]
      · simp [h1]
    have hcons : asksFault b (prevA l k) (l[k] :: l.drop (k + 1)) = if asksFault b (prevA l k) [l[k]] = 0 then asksFault b (some l[k].1) (l.drop (k + 1)) else asksFault b (prevA l k) [l[k]] := by
      simp only [asksFault]
      split
      · simp
      · split <;> simp
    by_cases h0 : asksFault b (prevA l k) [l[k]] = 0
    · rw [if_pos h0] at fin
      rw [hcons, if_pos h0, ← ihk]
      exact loopX_next fin
    · rw [if_neg h0] at fin
      rw [hcons, if_neg h0]
      refine (loopX_done fin).trans ?_
      simp [faultR, h0]
end Go.Proofs.Ytpeiomhgaembaaa
set_option linter.unusedVariables false
set_option linter.unusedSimpArgs false
namespace Go.Proofs.Ytpeiomhgaembaaa
open Go Go.Proofs.Ytpeiomhgaembaaa.Eng
def waitW (r : Int) (x : Int × Int) (at_ hand : Int) : Int := if 0 < x.2 - hand then max (max (x.1 - at_) 0) ((x.2 - hand + r - 1) / r) else max (x.1 - at_) 0
def nextR (r b : Int) (x : Int × Int) (at_ hand : Int) : Int :=
  if 0 < x.2 - min b (hand + (max at_ x.1 - at_) * r) then max at_ x.1 + (x.2 - min b (hand + (max at_ x.1 - at_) * r) + r - 1) / r else max at_ x.1
theorem next_eq {r b : Int} (hr : 1 ≤ r) (x : Int × Int) (at_ hand : Int) (hh : 0 ≤ hand ∧ hand ≤ b) (hx : 0 ≤ x.2 ∧ x.2 ≤ b) : nextR r b x at_ hand = at_ + waitW r x at_ hand := by
  unfold nextR waitW
  have e : max at_ x.1 = at_ + max (x.1 - at_) 0 := by omega
  rw [e]
  have hw : 0 ≤ max (x.1 - at_) 0 := by omega
  generalize max (x.1 - at_) 0 = w0 at hw ⊢
  rw [show at_ + w0 - at_ = w0 by omega]
  have hm : 0 ≤ w0 * r := Int.mul_nonneg hw (by omega)
  have h8 := Int.lt_ediv_add_one_mul_self (x.2 - hand + r - 1) (show 0 < r by omega)
  rw [Int.add_mul] at h8
  have h9 := Int.ediv_mul_le (x.2 - hand + r - 1) (show r ≠ 0 by omega)
  by_cases hn : x.2 - hand > w0 * r
  · rw [if_pos (by omega), if_pos (by omega)]
    have e2 : x.2 - min b (hand + w0 * r) + r - 1 = (x.2 - hand + r - 1) + (-w0) * r := by rw [Int.neg_mul]; omega
    rw [e2, Int.add_mul_ediv_right _ _ (by omega)]
    have h10 : w0 * r < ((x.2 - hand + r - 1) / r + 1) * r := by rw [Int.add_mul]; omega
    have h11 := Int.lt_of_mul_lt_mul_right h10 (by omega)
    omega
  · rw [if_neg (by omega)]
    split
    · have h10 : ((x.2 - hand + r - 1) / r) * r < (w0 + 1) * r := by rw [Int.add_mul]; omega
      have h11 := Int.lt_of_mul_lt_mul_right h10 (by omega)
      omega
    · rfl
/-- What a wait is worth. -/
theorem wait_ok {r b : Int} (hr : 1 ≤ r ∧ r ≤ 1000000000) (hb : b ≤ 1000000000) (x : Int × Int) (at_ hand : Int) (hh : 0 ≤ hand ∧ hand ≤ b) (hx : 0 ≤ x.2 ∧ x.2 ≤ b) (h1 : x.1 ≤ 1000000000) (ha : 0 ≤ at_) :
    0 ≤ waitW r x at_ hand ∧ waitW r x at_ hand ≤ 2000000000 ∧ x.2 ≤ hand + waitW r x at_ hand * r ∧ 0 ≤ waitW r x at_ hand * r ∧ waitW r x at_ hand * r ≤ 2000000000 * 1000000000 := by
  have key : 0 ≤ waitW r x at_ hand ∧ waitW r x at_ hand ≤ 2000000000 ∧ x.2 ≤ hand + waitW r x at_ hand * r := by
    unfold waitW
    split
    · have h7 : (x.2 - hand + r - 1) / r ≤ 2000000000 ∧ 0 ≤ (x.2 - hand + r - 1) / r :=
        ⟨Int.le_trans (Int.ediv_le_self _ (by omega)) (by omega), Int.ediv_nonneg (by omega) (by omega)⟩
      have h8 := Int.lt_ediv_add_one_mul_self (x.2 - hand + r - 1) (show 0 < r by omega)
      rw [Int.add_mul] at h8
      refine ⟨by omega, by omega, ?_⟩
      have := Int.mul_le_mul_of_nonneg_right (Int.le_max_right (max (x.1 - at_) 0) ((x.2 - hand + r - 1) / r)) (show 0 ≤ r by omega)
      omega
    · refine ⟨by omega, by omega, ?_⟩
      have := Int.mul_nonneg (Int.le_max_right (x.1 - at_) 0) (show 0 ≤ r by omega)
      omega
  exact ⟨key.1, key.2.1, key.2.2, Int.mul_nonneg key.1 (by omega), Int.mul_le_mul key.2.1 hr.2 (by omega) (by omega)⟩
def startsGo (r b : Int) : List (Int × Int) → Int → Int → List Int × Int
  | [], at_, hand => ([], at_)
  | x :: l, at_, hand =>
    let w := waitW r x at_ hand
    let p := startsGo r b l (at_ + w) (min b (hand + w * r) - x.2)
    ((at_ + w) :: p.1, p.2)
def okAsks (b : Int) (l : List (Int × Int)) : Prop := ∀ x ∈ l, (0 ≤ x.1 ∧ x.1 ≤ 1000000000) ∧ 0 ≤ x.2 ∧ x.2 ≤ b
theorem asks_in {b : Int} : ∀ {l : List (Int × Int)} {p : Option Int}, asksFault b p l = 0 → okAsks b l
  | y :: l, p, h, x, hx => by
    unfold asksFault at h
    split at h
    · cases h
    · rename_i hy
      split at h
      · cases h
      · rcases List.mem_cons.1 hx with rfl | hx
        · exact Classical.not_not.1 hy
        · exact asks_in h x hx
/-- wire's loop. -/
theorem loopW {r b : Int} (hr : 1 ≤ r ∧ r ≤ 1000000000) (hb : 1 ≤ b ∧ b ≤ 1000000000) {l : List (Int × Int)} (hl : l.length ≤ 2000) (ho : okAsks b l) :
    ∀ (n k : Nat) (at_ hand : Int) (out : List Int), l.length - k = n → k ≤ l.length → out.length = k → 0 ≤ at_ → at_ ≤ k * 2000000000 → 0 ≤ hand ∧ hand ≤ b →
      wire_Starts.l1 (r, b) l (l.length : Int) at_ hand (k : Int) out = some ((startsGo r b (l.drop k) at_ hand).2, out ++ (startsGo r b (l.drop k) at_ hand).1) := by
  intro n
  induction n with
  | zero =>
    intro k at_ hand out hn hk _ _ _ _
    obtain rfl : k = l.length := by omega
    refine loopX_done ?_
    simp only [wire_Starts.s1, cb_dec]
    rw [if_neg (by omega), List.drop_length]
    simp [startsGo]
  | succ n ih =>
    intro k at_ hand out hn hk hout ha0 ha1 hh
    have hlt : k < l.length := by omega
    have hx := ho l[k] (List.getElem_mem hlt)
    obtain ⟨w1, w2, w3, w4, w5⟩ := wait_ok hr hb.2 l[k] at_ hand hh hx.2 hx.1.2 ha0
    rw [List.drop_eq_getElem_cons hlt]
    simp only [startsGo]
    have ihk := ih (k + 1) (at_ + waitW r l[k] at_ hand) (min b (hand + waitW r l[k] at_ hand * r) - l[k].2) (out ++ [at_ + waitW r l[k] at_ hand]) (by omega) (by omega) (by simp [hout]) (by omega) (by omega) (by omega)
    rw [List.append_assoc, List.singleton_append] at ihk
    rw [← ihk]
    refine loopX_next ?_
    simp only [wire_Starts.s1, cb_dec, rd_lt hlt]
    rw [if_pos (by omega), ck_pos (by omega), ck_in (by omega) (by omega), ck_in (by omega) (by omega)]
    have hlen : (out.length + [at_ + waitW r l[k] at_ hand].length) * 8 ≤ 140737488355328 := by simp; omega
    by_cases hc : 0 < l[k].2 - hand
    · have hw : waitW r l[k] at_ hand = max (max (l[k].1 - at_) 0) ((l[k].2 - hand + r - 1) / r) := by unfold waitW; rw [if_pos hc]
      rw [if_pos hc, ck_in (by omega) (by omega), ck_in (by omega) (by omega), ck_pos (by omega), ← hw, ck_in (by omega) (by omega), ck_in (by omega) (by omega), ck_in (by omega) (by omega), ck_in (by omega) (by omega), ck_pos hlen, ck_in (by omega) (by omega)]
      rfl
    · have hw : waitW r l[k] at_ hand = max (l[k].1 - at_) 0 := by unfold waitW; rw [if_neg hc]
      rw [if_neg hc, ← hw, ck_in (by omega) (by omega), ck_in (by omega) (by omega), ck_in (by omega) (by omega), ck_in (by omega) (by omega), ck_pos hlen, ck_in (by omega) (by omega)]
      rfl
theorem startsGo_end {r b : Int} (hr : 1 ≤ r ∧ r ≤ 1000000000) (hb : b ≤ 1000000000) : ∀ (l : List (Int × Int)) (at_ hand : Int), 0 ≤ at_ → 0 ≤ hand ∧ hand ≤ b → okAsks b l → at_ ≤ (startsGo r b l at_ hand).2
  | [], at_, _, _, _, _ => Int.le_refl _
  | y :: l, at_, hand, ha, hh, ho => by
    have hy := ho y (List.mem_cons_self ..)
    obtain ⟨w1, w2, w3, w4, w5⟩ := wait_ok hr hb y at_ hand hh hy.2 hy.1.2 ha
    have := startsGo_end hr hb l (at_ + waitW r y at_ hand) (min b (hand + waitW r y at_ hand * r) - y.2) (by omega) (by omega) (fun z hz => ho z (List.mem_cons_of_mem _ hz))
    simp only [startsGo]
    omega
/-- The reference's loop. -/
theorem loopR {r b : Int} (hr : 1 ≤ r ∧ r ≤ 1000000000) (hb : 1 ≤ b ∧ b ≤ 1000000000) {l : List (Int × Int)} (hl : l.length ≤ 2000) (ho : okAsks b l) :
    ∀ (n k : Nat) (at_ hand : Int) (out : List Int), l.length - k = n → k ≤ l.length → out.length = k → 0 ≤ at_ → at_ ≤ 1000000000 → 0 ≤ hand ∧ hand ≤ b →
      ref8_Starts.l1 (r, b) l (l.length : Int) at_ hand (k : Int) out = some (if 1000000000 < (startsGo r b (l.drop k) at_ hand).2 then .inl ([], 1) else .inr (out ++ (startsGo r b (l.drop k) at_ hand).1)) := by
  intro n
  induction n with
  | zero =>
    intro k at_ hand out hn hk _ _ _ _
    obtain rfl : k = l.length := by omega
    refine loopX_done ?_
    simp only [ref8_Starts.s1, cb_dec]
    rw [if_neg (by omega), List.drop_length]
    have hno : ¬ 1000000000 < at_ := by omega
    simp [startsGo, hno]
  | succ n ih =>
    intro k at_ hand out hn hk hout ha0 ha1 hh
    have hlt : k < l.length := by omega
    have hx := ho l[k] (List.getElem_mem hlt)
    obtain ⟨w1, w2, w3, w4, w5⟩ := wait_ok hr hb.2 l[k] at_ hand hh hx.2 hx.1.2 ha0
    have hne := next_eq (b := b) hr.1 l[k] at_ hand hh hx.2
    rw [List.drop_eq_getElem_cons hlt]
    simp only [startsGo]
    have he := startsGo_end hr hb.2 (l.drop (k + 1)) (at_ + waitW r l[k] at_ hand) (min b (hand + waitW r l[k] at_ hand * r) - l[k].2) (by omega) (by omega) (fun z hz => ho z (List.mem_of_mem_drop hz))
    have hlen : (out.length + [at_ + waitW r l[k] at_ hand].length) * 8 ≤ 140737488355328 := by simp; omega
    -- one round
    have round : ref8_Starts.s1 (r, b) l (l.length : Int) at_ hand (k : Int) out = if 1000000000 < at_ + waitW r l[k] at_ hand then some (.inr (.inl ([], 1))) else some (.inl (at_ + waitW r l[k] at_ hand, min b (hand + waitW r l[k] at_ hand * r) - l[k].2, (k : Int) + 1, out ++ [at_ + waitW r l[k] at_ hand])) := by
      simp only [ref8_Starts.s1, cb_dec, rd_lt hlt]
      have m0 : 0 ≤ max at_ l[k].1 - at_ ∧ max at_ l[k].1 - at_ ≤ 1000000000 := by omega
      have m1 : 0 ≤ (max at_ l[k].1 - at_) * r := Int.mul_nonneg m0.1 (by omega)
      have m2 : (max at_ l[k].1 - at_) * r ≤ 1000000000 * 1000000000 := Int.mul_le_mul m0.2 hr.2 (by omega) (by omega)
      rw [if_pos (by omega), ck_pos (by omega), ck_in (by omega) (by omega), ck_in (by omega) (by omega), ck_in (by omega) (by omega), ck_in (by omega) (by omega)]
      have eW : at_ + waitW r l[k] at_ hand - at_ = waitW r l[k] at_ hand := by omega
      unfold nextR at hne
      by_cases hc : 0 < l[k].2 - min b (hand + (max at_ l[k].1 - at_) * r)
      · rw [if_pos hc] at hne
        rw [if_pos hc, ck_in (by omega) (by omega), ck_in (by omega) (by omega), ck_pos (by omega), hne, ck_in (by omega) (by omega)]
        by_cases hz : 1000000000 < at_ + waitW r l[k] at_ hand
        · rw [if_pos hz, if_pos hz]
        · rw [if_neg hz, if_neg hz, eW, ck_in (by omega) (by omega), ck_in (by omega) (by omega), ck_in (by omega) (by omega), ck_in (by omega) (by omega), ck_pos hlen, ck_in (by omega) (by omega)]
      · rw [if_neg hc] at hne
        rw [if_neg hc, hne]
        by_cases hz : 1000000000 < at_ + waitW r l[k] at_ hand
        · rw [if_pos hz, if_pos hz]
        · rw [if_neg hz, if_neg hz, eW, ck_in (by omega) (by omega), ck_in (by omega) (by omega), ck_in (by omega) (by omega), ck_in (by omega) (by omega), ck_pos hlen, ck_in (by omega) (by omega)]
    by_cases hz : 1000000000 < at_ + waitW r l[k] at_ hand
    · rw [if_pos hz] at round
      have hbig : 1000000000 < (startsGo r b (l.drop (k + 1)) (at_ + waitW r l[k] at_ hand) (min b (hand + waitW r l[k] at_ hand * r) - l[k].2)).2 := by omega
      refine (loopX_done round).trans ?_
      simp [hbig]
    · rw [if_neg hz] at round
      have ihk := ih (k + 1) (at_ + waitW r l[k] at_ hand) (min b (hand + waitW r l[k] at_ hand * r) - l[k].2) (out ++ [at_ + waitW r l[k] at_ hand]) (by omega) (by omega) (by simp [hout]) (by omega) (by omega) (by omega)
      refine (loopX_next round).trans (ihk.trans ?_)
      by_cases hbig : 1000000000 < (startsGo r b (l.drop (k + 1)) (at_ + waitW r l[k] at_ hand) (min b (hand + waitW r l[k] at_ hand * r) - l[k].2)).2 <;> simp [hbig]
/-- What Starts answers. -/
def starts (r b : Int) (l : List (Int × Int)) : List Int × Int :=
  if quotaF r b ≠ 0 then ([], quotaF r b) else if 2000 < (l.length : Int) then ([], 2) else if asksFault b none l ≠ 0 then ([], asksFault b none l) else
    if 1000000000 < (startsGo r b l 0 b).2 then ([], 1) else ((startsGo r b l 0 b).1, 0)
theorem quotaF_ok {r b : Int} (h : quotaF r b = 0) : (1 ≤ r ∧ r ≤ 1000000000) ∧ (1 ≤ b ∧ b ≤ 1000000000) := by
  unfold quotaF at h
  split at h
  · assumption
  · cases h
theorem starts_eq (r b : Int) (l : List (Int × Int)) : wire_Starts.f (r, b) l = some (starts r b l) := by
  unfold wire_Starts.f starts
  simp only [quota_eq, ob_s, cb_not, cb_dec]
  by_cases hq : quotaF r b = 0
  · rw [if_pos hq, if_neg (show ¬ (quotaF r b ≠ 0) by simp [hq])]
    by_cases hl : 2000 < (l.length : Int)
    · rw [if_pos hl, if_pos hl]
    · have hl' : l.length ≤ 2000 := by omega
      rw [if_neg hl, if_neg hl]
      have hc := checks r b l hl' l.length 0 (by omega) (by omega)
      rw [show ((0 : Nat) : Int) = 0 from rfl, List.drop_zero] at hc
      rw [hc, ob_s]
      have hp : prevA l 0 = none := rfl
      rw [hp]
      by_cases hf : asksFault b none l = 0
      · obtain ⟨h1, h2⟩ := quotaF_ok hq
        rw [if_neg (by simp [hf])]
        have e : faultR (asksFault b none l) = .inr () := by simp [faultR, hf]
        rw [e, caseS_r]
        have h3 := loopW h1 h2 hl' (asks_in hf) l.length 0 0 b [] (by omega) (by omega) rfl (by omega) (by omega) (by omega)
        rw [show ((0 : Nat) : Int) = 0 from rfl, List.drop_zero, List.nil_append] at h3
        rw [h3, ob_s]
        by_cases hz : 1000000000 < (startsGo r b l 0 b).2
        · rw [if_pos hz, if_pos hz]
        · rw [if_neg hz, if_neg hz]
      · rw [if_pos hf]
        have e : faultR (asksFault b none l) = .inl ([], asksFault b none l) := by simp [faultR, hf]
        rw [e, caseS_l]
  · rw [if_neg hq, if_pos hq]
theorem checks8 (r b : Int) (l : List (Int × Int)) (hl : l.length ≤ 2000) : ref8_Starts.l0 l (r, b) l (l.length : Int) 0 = some (faultR (asksFault b none l)) := by
  have hc := checks r b l hl l.length 0 (by omega) (by omega)
  rw [show ((0 : Nat) : Int) = 0 from rfl, List.drop_zero, show prevA l 0 = none from rfl] at hc
  rw [← hc]
  unfold ref8_Starts.l0 wire_Starts.l0
  congr 1
theorem starts8_eq (r b : Int) (l : List (Int × Int)) : ref8_Starts.f (r, b) l = some (starts r b l) := by
  unfold ref8_Starts.f starts
  simp only [quota8_eq, ob_s, cb_not, cb_dec]
  by_cases hq : quotaF r b = 0
  · rw [if_pos hq, if_neg (show ¬ (quotaF r b ≠ 0) by simp [hq])]
    by_cases hl : 2000 < (l.length : Int)
    · rw [if_pos hl, if_pos hl]
    · have hl' : l.length ≤ 2000 := by omega
      rw [if_neg hl, if_neg hl, checks8 r b l hl', ob_s]
      by_cases hf : asksFault b none l = 0
      · obtain ⟨h1, h2⟩ := quotaF_ok hq
        rw [if_neg (by simp [hf])]
        have e : faultR (asksFault b none l) = .inr () := by simp [faultR, hf]
        rw [e, caseS_r]
        have h3 := loopR h1 h2 hl' (asks_in hf) l.length 0 0 b [] (by omega) (by omega) rfl (by omega) (by omega) (by omega)
        rw [show ((0 : Nat) : Int) = 0 from rfl, List.drop_zero, List.nil_append] at h3
        rw [h3, ob_s]
        by_cases hz : 1000000000 < (startsGo r b l 0 b).2
        · rw [if_pos hz, if_pos hz, caseS_l]
        · rw [if_neg hz, if_neg hz, caseS_r]
      · rw [if_pos hf]
        have e : faultR (asksFault b none l) = .inl ([], asksFault b none l) := by simp [faultR, hf]
        rw [e, caseS_l]
  · rw [if_neg hq, if_pos hq]
end Go.Proofs.Ytpeiomhgaembaaa
set_option linter.unusedVariables false
set_option linter.unusedSimpArgs false
namespace Go.Proofs.Ytpeiomhgaembaaa
open Go Go.Proofs.Ytpeiomhgaembaaa.Eng
theorem sent8_eq (q : Int × Int) (l : List (Int × Int)) (p e : Int) : ref8_Sent.f q l p e = wire_Sent.f q l p e := by
  obtain ⟨r, b⟩ := q
  unfold ref8_Sent.f wire_Sent.f
  simp only [starts_eq, starts8_eq, ob_s, within_eq, within8_eq]
  rfl
theorem clone_eq {l : List (Int × Int)} (h : l.length * 16 ≤ 140737488355328) : slices_Clone_api_Ask_api_Ask.f l = some l := by
  unfold slices_Clone_api_Ask_api_Ask.f
  rw [ck_pos (by simpa using h), List.nil_append]
  by_cases hl : l = []
  · subst hl; exact nq_same
  · unfold nq; rw [if_pos hl]
theorem equalI (l : List Int) (hl : l.length ≤ 1000000000000) : slices_Equal_int_int.f l l = some true := by
  have go : ∀ (n k : Nat), l.length - k = n → k ≤ l.length → slices_Equal_int_int.l0 l l (l.length : Int) (k : Int) = some (.inr ()) := by
    intro n
    induction n with
    | zero =>
      intro k hn hk
      refine loopX_done ?_
      simp only [slices_Equal_int_int.s0, cb_dec]
      rw [if_neg (by omega)]
    | succ n ih =>
      intro k hn hk
      have hlt : k < l.length := by omega
      refine (loopX_next ?_).trans (ih (k + 1) (by omega) (by omega))
      simp only [slices_Equal_int_int.s0, cb_dec, rd_lt hlt]
      have hb : 0 ≤ (k : Int) ∧ (k : Int) < (l.length : Int) := by omega
      simp only [ck_pos hb, if_pos hb.2, decide_true, Bool.not_true, cb_f]
      rw [ck_in (by omega) (by omega)]
      rfl
  unfold slices_Equal_int_int.f
  have := go l.length 0 (by omega) (by omega)
  rw [show ((0 : Nat) : Int) = 0 from rfl] at this
  simp only [decide_true, Bool.not_true, cb_f, this, ob_s, caseS_r]
theorem equalA (l : List (Int × Int)) (hl : l.length ≤ 1000000000000000) : slices_Equal_api_Ask_api_Ask.f l l = some true := by
  have go : ∀ (n k : Nat), l.length - k = n → k ≤ l.length → slices_Equal_api_Ask_api_Ask.l0 l l (l.length : Int) (k : Int) = some (.inr ()) := by
    intro n
    induction n with
    | zero =>
      intro k hn hk
      refine loopX_done ?_
      simp only [slices_Equal_api_Ask_api_Ask.s0, cb_dec]
      rw [if_neg (by omega)]
    | succ n ih =>
      intro k hn hk
      have hlt : k < l.length := by omega
      refine (loopX_next ?_).trans (ih (k + 1) (by omega) (by omega))
      simp only [slices_Equal_api_Ask_api_Ask.s0, cb_dec, rd_lt hlt]
      have hb : 0 ≤ (k : Int) ∧ (k : Int) < (l.length : Int) := by omega
      simp only [ck_pos hb, if_pos hb.2, eqI, beq_self_eq_true, Bool.and_true, Bool.not_true, cb_f]
      rw [ck_in (by omega) (by omega)]
      rfl
  unfold slices_Equal_api_Ask_api_Ask.f
  have := go l.length 0 (by omega) (by omega)
  rw [show ((0 : Nat) : Int) = 0 from rfl] at this
  simp only [decide_true, Bool.not_true, cb_f, this, ob_s, caseS_r]
theorem startsGo_len (r b : Int) : ∀ (l : List (Int × Int)) (a h : Int), (startsGo r b l a h).1.length = l.length
  | [], _, _ => rfl
  | x :: l, a, h => by simp only [startsGo, List.length_cons, startsGo_len r b l]
theorem starts_len (r b : Int) (l : List (Int × Int)) : (starts r b l).1.length ≤ 2000 := by
  unfold starts
  repeat' split
  all_goals first | simp; done | skip
  rw [startsGo_len]; omega
theorem awake_eq : law8_awake.f = some true := by
  unfold law8_awake.f
  rw [starts_eq]
  have e : starts 2 10 [(0, 8), (0, 8)] = ([0, 3], 0) := by decide
  rw [e, ob_s]
  simp only [cb_dec, if_true, List.length_cons, List.length_nil]
  rw [if_pos (by omega), ck_pos (by omega)]
  have e1 : rd (0 : Int) [0, 3] 0 = 0 := rfl
  have e2 : rd (0 : Int) [0, 3] 1 = 3 := rfl
  rw [e1, e2, if_pos rfl, ck_pos (by omega)]
  rfl
theorem sentLoop {b p e : Int} {l : List (Int × Int)} {ts : List Int} (hb : b ≤ 1000000000) (ho : okAsks b l) (hts : ts.length ≤ l.length) (hl : l.length ≤ 2000) :
    ∀ (n k : Nat) (acc : Int), ts.length - k = n → k ≤ ts.length → 0 ≤ acc → acc ≤ k * 1000000000 → ∃ v, wire_Sent.l0 l p e ts (ts.length : Int) acc (k : Int) = some v := by
  intro n
  induction n with
  | zero =>
    intro k acc hn hk _ _
    refine ⟨acc, loopX_done ?_⟩
    simp only [wire_Sent.s0, cb_dec]
    rw [if_neg (by omega)]
  | succ n ih =>
    intro k acc hn hk h0 h1
    have hlt : k < ts.length := by omega
    have hlt2 : k < l.length := by omega
    have hx := ho l[k] (List.getElem_mem hlt2)
    have key : ∃ a2, wire_Sent.s0 l p e ts (ts.length : Int) acc (k : Int) = some (.inl (a2, ((k + 1 : Nat) : Int))) ∧ 0 ≤ a2 ∧ a2 ≤ (k + 1 : Nat) * 1000000000 := by
      simp only [wire_Sent.s0, cb_dec, rd_lt hlt, rd_lt hlt2]
      rw [if_pos (by omega), ck_pos (by omega)]
      by_cases c1 : p ≤ ts[k]
      · by_cases c2 : ts[k] < e
        · rw [if_pos c1, if_pos c2, ck_pos (by omega), ck_in (by omega) (by omega), ck_in (by omega) (by omega)]
          exact ⟨_, rfl, by omega, by omega⟩
        · rw [if_pos c1, if_neg c2, ck_in (by omega) (by omega)]
          exact ⟨_, rfl, by omega, by omega⟩
      · rw [if_neg c1, ck_in (by omega) (by omega)]
        exact ⟨_, rfl, by omega, by omega⟩
    obtain ⟨a2, h2, h3, h4⟩ := key
    obtain ⟨v, hv⟩ := ih (k + 1) a2 (by omega) (by omega) h3 h4
    exact ⟨v, (loopX_next h2).trans hv⟩
theorem starts_zero {r b : Int} {l : List (Int × Int)} (h : (starts r b l).2 = 0) : b ≤ 1000000000 ∧ okAsks b l ∧ l.length ≤ 2000 ∧ (starts r b l).1.length ≤ l.length := by
  unfold starts at h ⊢
  by_cases h1 : quotaF r b ≠ 0
  · rw [if_pos h1] at h; exact absurd h h1
  · rw [if_neg h1] at h ⊢
    have hb := (quotaF_ok (Classical.not_not.1 h1)).2.2
    by_cases h2 : 2000 < (l.length : Int)
    · rw [if_pos h2] at h; cases h
    · rw [if_neg h2] at h ⊢
      by_cases h3 : asksFault b none l ≠ 0
      · rw [if_pos h3] at h; exact absurd h h3
      · rw [if_neg h3] at h ⊢
        refine ⟨hb, asks_in (Classical.not_not.1 h3), by omega, ?_⟩
        split
        · simp
        · rw [startsGo_len]; exact Nat.le_refl _
theorem sent_some (q : Int × Int) (l : List (Int × Int)) (p e : Int) : ∃ v, wire_Sent.f q l p e = some v := by
  obtain ⟨r, b⟩ := q
  unfold wire_Sent.f
  simp only [starts_eq, ob_s, within_eq, cb_not, cb_dec]
  by_cases h : (starts r b l).2 = 0
  · obtain ⟨h1, h2, h3, h4⟩ := starts_zero h
    rw [if_pos h]
    obtain ⟨v, hv⟩ := sentLoop (p := p) (e := e) h1 h2 h4 h3 (starts r b l).1.length 0 0 (by omega) (by omega) (by omega) (by omega)
    rw [show ((0 : Nat) : Int) = 0 from rfl] at hv
    rw [hv, ob_s]
    repeat' split
    all_goals exact ⟨_, rfl⟩
  · rw [if_neg h]; exact ⟨_, rfl⟩
theorem law_QM (q : Int × Int) (l : List (Int × Int)) (p e : Int) (hl : l.length * 16 ≤ 140737488355328) : law8_WireQuotasMatchSpec.f q l p e = some true := by
  obtain ⟨rr, b⟩ := q
  unfold law8_WireQuotasMatchSpec.f
  have hn := starts_len rr b l
  obtain ⟨v, hv⟩ := sent_some (rr, b) l p e
  simp only [clone_eq hl, starts_eq, starts8_eq, quota_eq, quota8_eq, ob_s, decide_true, Bool.not_true, cb_f, cb_t, equalI _ (show (starts rr b l).1.length ≤ 1000000000000 by omega), sent8_eq, hv, equalA l (by omega), awake_eq]
end Go.Proofs.Ytpeiomhgaembaaa
set_option linter.unusedVariables false
set_option linter.unusedSimpArgs false
set_option maxRecDepth 100000
set_option maxHeartbeats 4000000
namespace Go.Proofs.Ytpeiomhgaembaaa
open Go Go.RowKit Go.ChangeShapes Go.WideShapes Go.ChangeAt Go.Proofs.Ytpeiomhgaembaaa.Eng
theorem own : ownKnob Try.prog.godebug = none := by kernel_rfl
theorem laidOut : laidOutB Try.prog = true := by kernel_rfl
theorem wireQuotasMatchSpec_av (xs : List AV) (h : ShapeA T 6 [23,24,3,3] xs) : FPure Try.prog 4 xs (.v (.bool true)) :=
  law_typed (T := T) (m := 6) (ts := [23,24,3,3]) law8_WireQuotasMatchSpec.ok (by kernel_rfl) (fun x hx => law_QM x.1 x.2.1 x.2.2.1 x.2.2.2 (Nat.le_trans (show List.length x.2.1 * 16 ≤ reachBytes from hx.2.1.1) (by decide +kernel))) xs h
theorem wireQuotasMatchSpec_lifted (os : Os) (started : os.Started) (H : Type) (enc : TypeId × Value → H) :
    ReturnsInHanded {} Try.checked os 4 .any (Rows.wireQuotasMatchSpecSpec.pre6 enc Try.prog Try.f4 Rows.wireQuotasMatchSpecRow.domain false) (Rows.wireQuotasMatchSpecSpec.post enc Try.prog Try.f4 false true false false) := by
  refine returnsInHanded_of_change_sized (C := Try.checked) own started (by kernel_rfl) Try.func4
    (ChangeSpec.witness6 (enc := enc) (C := Try.checked) false ⟨#[], #[.agg #[.int .i64 0, .int .i64 0], .slice none 0 0, .int .i64 0, .int .i64 0], []⟩ 8 (by kernel_rfl) (by kernel_rfl) (by kernel_rfl) (by kernel_rfl)) ?_
  intro W base args ds gs before hval0 hW hcnd hsz0 _
  have hW' := hW
  obtain ⟨p, q, hA0, hV, rfl, hfz, hnd⟩ := hW
  have hsz : (DataW.weightsEach Try.prog (Try.f4.params.toList ++ Rows.wireQuotasMatchSpecSpec.plain.varTypes Try.prog) (ds ++ gs)).all (· ≤ reachBytes) = true := hsz0
  have hA : DataW.TrodAll enc Try.prog W 0 (fun _ => true) true [23,24,3,3] args.toList ds p := hA0
  obtain ⟨rfl, rfl⟩ := trodVars_none hV
  have hlaw := law_calls (r := .any) (b0 := base) tabOK laidOut wireQuotasMatchSpec_av (by decide +kernel) (by kernel_rfl) hA (fun j t v h1 h2 => hval0 j t v (by simpa using h1) (by simpa using h2)) (by rw [List.append_nil] at hsz; exact hsz)
  simp only [Array.toArray_toList] at hlaw
  refine hlaw.mono fun e W' ⟨he, bel, hback⟩ => ?_
  subst he
  obtain ⟨d1, d2, d3, d4, hds⟩ : ∃ d1 d2 d3 d4, ds = [d1, d2, d3, d4] := by
    obtain ⟨_, _, d1, _, _, _, _, rfl, _, _, h⟩ := trodAll_cons hA
    obtain ⟨_, _, d2, _, _, _, _, rfl, _, _, h⟩ := trodAll_cons h
    obtain ⟨_, _, d3, _, _, _, _, rfl, _, _, h⟩ := trodAll_cons h
    obtain ⟨_, _, d4, _, _, _, _, rfl, _, _, h⟩ := trodAll_cons h
    obtain ⟨_, rfl, _⟩ := trodAll_nil h
    exact ⟨d1, d2, d3, d4, rfl⟩
  subst hds
  exact ⟨_, rfl, _, _, _, [], _, [], hW', trodAll_mk1 (shut_bool Try.underlying4 _), hback, rfl, bel.frame _, fun h => by cases h⟩
theorem wireQuotasMatchSpec_over : Rows.wireQuotasMatchSpecRow.holds Try.pinned (OpenSpec.ofChange Rows.wireQuotasMatchSpecSpec) :=
  OpenClaim.holds_of_wide 4 Try.f4 rfl rfl rfl rfl rfl rfl rfl ⟨rfl, rfl, rfl, rfl, rfl⟩ rfl rfl rfl rfl rfl (by kernel_rfl) Try.func4 (by kernel_rfl)
    (of_decide_eq_true (by kernel_rfl)) (by unfold Func.isWrapper; first | (rw [if_pos (by decide +kernel)]; kernel_rfl) | (rw [if_neg (by decide +kernel)]; exact ⟨rfl, rfl⟩))
    (fun os started H enc _ => wireQuotasMatchSpec_lifted os started H enc)
theorem wireQuotasMatchSpec_holds : Rows.WireQuotasMatchSpecSaid := wireQuotasMatchSpec_over
end Go.Proofs.Ytpeiomhgaembaaa
