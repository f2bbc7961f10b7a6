/-
  The law WireBatchesHoldAll hands back true for every argument, and leaves its arguments as they were; its card is tied to the program. No condition.
-/
import Derived.Test.YtpeiomhgaembaaaDoorFun
import Derived.Test.YtpeiomhgaembaaaDoorTypB
import Derived.Test.YtpeiomhgaembaaaDoorRows
import Derived.Test.YtpeiomhgaembaaaDoorCards
import Derived.Test.YtpeiomhgaembaaaDoorTie
import Derived.ProofKit
import Derived.LaidMore
import Derived.Lay
import Derived.OpenShut
import Derived.SevenTiedAt
import Derived.Stop.Joined
set_option linter.unusedVariables false
set_option linter.unusedSimpArgs false
namespace Go.Proofs.YtpeiomhgaembaaaDoor
open Go Go.Proofs.YtpeiomhgaembaaaDoor.Eng
theorem ck_dec {β : Type} {c : Prop} [h : Decidable c] {a : Option β} : ck c a = if c then a else none := by
 by_cases hc : c
 ·rw [ck_pos hc, if_pos hc]
 ·rw [if_neg hc]; unfold ck; rw [if_neg hc]
instance inR_dec (x : Int) : Decidable (InR x) := by unfold InR; infer_instance
theorem within_eq (a b c : Int) : wire_within.f a b c = some (decide (b ≤ a ∧ a ≤ c)) := by
 unfold wire_within.f
 rw [cb_dec]
 by_cases h : b ≤ a <;> simp [h]
theorem within8_eq (a b c : Int) : ref8_within.f a b c = some (decide (b ≤ a ∧ a ≤ c)) := by
 unfold ref8_within.f
 rw [cb_dec]
 by_cases h : b ≤ a <;> simp [h]
theorem starts_awake : wire_Starts.f ((2 : Int), (10 : Int)) [((0 : Int), (8 : Int)), ((0 : Int), (8 : Int))] = some ([0, 3], 0) := by
 have q : wire_CheckQuota.f ((2 : Int), (10 : Int)) = some 0 := by
  simp only [wire_CheckQuota.f, within_eq, ob_s]; rfl
 have l0 : wire_Starts.l0 [((0 : Int), (8 : Int)), ((0 : Int), (8 : Int))] ((2 : Int), (10 : Int)) [((0 : Int), (8 : Int)), ((0 : Int), (8 : Int))] 2 0 = some (.inr ()) := by
  refine (loopX_next (x' := 1) ?_).trans ((loopX_next (x' := 2) ?_).trans (loopX_done ?_))
  ·simp only [wire_Starts.s0, ck_dec, within_eq, ob_s]; rfl
  ·simp only [wire_Starts.s0, ck_dec, within_eq, ob_s]; rfl
  ·simp only [wire_Starts.s0, ck_dec, within_eq, ob_s]; rfl
 have l1 : wire_Starts.l1 ((2 : Int), (10 : Int)) [((0 : Int), (8 : Int)), ((0 : Int), (8 : Int))] 2 0 10 0 [] = some (3, [0, 3]) := by
  refine (loopX_next (x' := (0, 2, 1, [0])) ?_).trans ((loopX_next (x' := (3, 0, 2, [0, 3])) ?_).trans (loopX_done ?_))
  ·simp only [wire_Starts.s1, ck_dec]; rfl
  ·simp only [wire_Starts.s1, ck_dec]; rfl
  ·simp only [wire_Starts.s1, ck_dec]; rfl
 unfold wire_Starts.f
 rw [q, ob_s]
 show ob (wire_Starts.l0 [((0 : Int), (8 : Int)), ((0 : Int), (8 : Int))] ((2 : Int), (10 : Int)) [((0 : Int), (8 : Int)), ((0 : Int), (8 : Int))] 2 0) _ = _
 rw [l0, ob_s, caseS_r]
 show ob (wire_Starts.l1 ((2 : Int), (10 : Int)) [((0 : Int), (8 : Int)), ((0 : Int), (8 : Int))] 2 0 10 0 []) _ = _
 rw [l1, ob_s]
 rfl
theorem awake_eq : law8_awake.f = some true := by
 unfold law8_awake.f
 rw [starts_awake, ob_s]
 simp only [ck_dec]
 rfl
theorem isDigest_eq (s : ByteArray) : ∃ b : Bool, blob_IsDigest.f s = some b := by
 unfold blob_IsDigest.f
 simp only [cb_dec]
 by_cases h : (s.size : Int) = 16
 ·rw [if_pos h]
  unfold strings_Trim.f
  rw [ck_pos ⟨by omega, by decide, by decide⟩, ob_s]
  exact ⟨_, rfl⟩
 ·rw [if_neg h]; exact ⟨_, rfl⟩
end Go.Proofs.YtpeiomhgaembaaaDoor
set_option linter.unusedVariables false
set_option linter.unusedSimpArgs false
namespace Go.Proofs.YtpeiomhgaembaaaDoor
open Go Go.Proofs.YtpeiomhgaembaaaDoor.Eng
abbrev Sz := ByteArray × Int
noncomputable def lastR (o : List (List ByteArray)) : List ByteArray := List.getD o (o.length - 1) []
noncomputable def stepB (most many : Int) (s : Int) (o : List (List ByteArray)) (x : Sz) : Int × List (List ByteArray) :=
 if o = [] ∨ many ≤ (lastR o).length ∨ most < s + x.2 then (x.2, o ++ [[x.1]]) else (s + x.2, List.set o (o.length - 1) (lastR o ++ [x.1]))
theorem both_eq {β : Type} {a b r : Option β} (h1 : a = r) (h2 : b = r) : both a b = r := by rw [h1, h2]; exact both_same r
theorem ck_eq {β : Type} {c : Prop} {a r : Option β} (h1 : c) (h2 : a = r) : ck c a = r := by rw [ck_pos h1]; exact h2
set_option maxHeartbeats 2000000 in
theorem stepW {most many : Int} {l : List Sz} {k : Nat} {s : Int} {o : List (List ByteArray)} (hk : k < l.length) (hl : l.length ≤ 4000) (hsz : 0 ≤ l[k].2 ∧ l[k].2 ≤ 2000000) (hs : 0 ≤ s ∧ s ≤ 2000000 * 4000) (ho : o.length ≤ 4000) (hr : (lastR o).length ≤ 4000) :
  wire_Batches.s0 most many l (l.length : Int) s (k : Int) o = some (.inl ((stepB most many s o l[k]).1, ((k : Int) + 1, (stepB most many s o l[k]).2))) := by
 have hkI : (0 : Int) ≤ k ∧ (k : Int) < (l.length : Int) := by omega
 have hk1 : InR ((k : Int) + 1) := by unfold InR; omega
 have hx1 : InR (0 + l[k].2) := by unfold InR; omega
 have hx2 : InR (s + l[k].2) := by unfold InR; omega
 have hn1 : InR ((o.length : Int) - 1) := by unfold InR; omega
 have hn2 : InR ((o.length : Int) - 1 + 1) := by unfold InR; omega
 have e1 : Int.toNat ((o.length : Int) - 1 + 1) = o.length := by omega
 have e2 : Int.toNat ((o.length : Int) - 1) = o.length - 1 := by omega
 have g1 : List.getD (o ++ List.replicate 1 ([] : List ByteArray)) o.length [] = [] := by simp [List.getD]
 have g2 : List.set (o ++ List.replicate 1 ([] : List ByteArray)) o.length ([] ++ [l[k].1]) = o ++ [[l[k].1]] := by
  rw [List.set_append_right _ _ (Nat.le_refl _)]; simp
 have g3 : (o ++ List.replicate 1 ([] : List ByteArray)).length = o.length + 1 := by simp
 have g4 : (List.replicate 1 ([] : List ByteArray)).length = 1 := rfl
 have g5 : (o ++ [[l[k].1]]).length = o.length + 1 := by simp
 have g6 : List.getD o (o.length - 1) [] = lastR o := rfl
 have g7 : (List.set o (o.length - 1) (lastR o ++ [l[k].1])).length = o.length := by simp
 simp only [wire_Batches.s0, cb_dec, rd_lt hk, mix_eq]
 rw [if_pos hkI.2, ck_pos hkI, ck_pos hn1]
 simp only [e1, e2, g1, g2, g3, g4, g5, g6, g7]
 have newF : (o = [] ∨ many ≤ (lastR o).length ∨ most < s + l[k].2) → ∀ s', s' = 0 + l[k].2 → some (Sum.inl (s', ((k : Int) + 1), o ++ [[l[k].1]])) = (some (.inl ((stepB most many s o l[k]).1, ((k : Int) + 1, (stepB most many s o l[k]).2))) : Option ((Int × (Int × List (List ByteArray))) ⊕ List (List ByteArray))) := by
  intro h s' hs'
  unfold stepB
  rw [if_pos h, hs', Int.zero_add]
 by_cases h0 : o = []
 ·have hn : o.length = 0 := by rw [h0]; rfl
  rw [if_pos (by omega)]
  repeat' first | with_reducible refine both_eq ?_ ?_ | with_reducible refine ck_eq ?_ ?_ | exact newF (.inl h0) _ rfl
  all_goals first | trivial | assumption | omega | (refine ⟨by omega, ?_⟩; simp only [List.length_nil, List.length_cons]; omega) | (simp only [List.length_nil, List.length_cons]; omega)
 ·have hn : 0 < o.length := List.length_pos_iff.2 h0
  have oldF : ¬ (o = [] ∨ many ≤ (lastR o).length ∨ most < s + l[k].2) → some (Sum.inl (s + l[k].2, ((k : Int) + 1), List.set o (o.length - 1) (lastR o ++ [l[k].1]))) = (some (.inl ((stepB most many s o l[k]).1, ((k : Int) + 1, (stepB most many s o l[k]).2))) : Option ((Int × (Int × List (List ByteArray))) ⊕ List (List ByteArray))) := by
   intro h
   unfold stepB
   rw [if_neg h]
  rw [if_neg (by omega), ck_pos (by omega), ck_pos (by omega), ck_pos (by omega)]
  by_cases h1 : many ≤ ((lastR o).length : Int)
  ·rw [if_pos h1]
   repeat' first | with_reducible refine both_eq ?_ ?_ | with_reducible refine ck_eq ?_ ?_ | exact newF (.inr (.inl h1)) _ rfl
   all_goals first | trivial | assumption | omega | (refine ⟨by omega, ?_⟩; simp only [List.length_nil, List.length_cons]; omega) | (simp only [List.length_nil, List.length_cons]; omega)
  ·rw [if_neg h1, ck_pos hx2]
   by_cases h2 : most < s + l[k].2
   ·rw [if_pos h2]
    repeat' first | with_reducible refine both_eq ?_ ?_ | with_reducible refine ck_eq ?_ ?_ | exact newF (.inr (.inr h2)) _ rfl
    all_goals first | trivial | assumption | omega | (refine ⟨by omega, ?_⟩; simp only [List.length_nil, List.length_cons]; omega) | (simp only [List.length_nil, List.length_cons]; omega)
   ·rw [if_neg h2]
    have hno : ¬ (o = [] ∨ many ≤ (lastR o).length ∨ most < s + l[k].2) := fun h => by
     rcases h with h | h | h
     ·exact h0 h
     ·exact h1 h
     ·exact h2 h
    repeat' first | with_reducible refine both_eq ?_ ?_ | with_reducible refine ck_eq ?_ ?_ | exact oldF hno
    all_goals first | trivial | assumption | omega | (refine ⟨by omega, ?_⟩; simp only [List.length_nil, List.length_cons]; omega) | (simp only [List.length_nil, List.length_cons]; omega)
set_option maxHeartbeats 2000000 in
theorem stepR {most many : Int} {l : List Sz} {k : Nat} {s : Int} {o : List (List ByteArray)} (hk : k < l.length) (hl : l.length ≤ 4000) (hsz : 0 ≤ l[k].2 ∧ l[k].2 ≤ 2000000) (hs : 0 ≤ s ∧ s ≤ 2000000 * 4000) (ho : o.length ≤ 4000) (hr : (lastR o).length ≤ 4000) :
  ref8_Batches.s0 most many l (l.length : Int) s (k : Int) o = some (.inl ((stepB most many s o l[k]).1, ((k : Int) + 1, (stepB most many s o l[k]).2))) := by
 have hkI : (0 : Int) ≤ k ∧ (k : Int) < (l.length : Int) := by omega
 have hk1 : InR ((k : Int) + 1) := by unfold InR; omega
 have hx2 : InR (s + l[k].2) := by unfold InR; omega
 have hn1 : InR ((o.length : Int) - 1) := by unfold InR; omega
 have e2 : Int.toNat ((o.length : Int) - 1) = o.length - 1 := by omega
 have g4 : ([[l[k].1]] : List (List ByteArray)).length = 1 := rfl
 have g5 : (o ++ [[l[k].1]]).length = o.length + 1 := by simp
 have g6 : List.getD o (o.length - 1) [] = lastR o := rfl
 have g7 : (List.set o (o.length - 1) (lastR o ++ [l[k].1])).length = o.length := by simp
 simp only [ref8_Batches.s0, cb_dec, rd_lt hk, mix_eq]
 rw [if_pos hkI.2, ck_pos hkI]
 simp only [e2, g4, g5, g6, g7]
 have newF : (o = [] ∨ many ≤ (lastR o).length ∨ most < s + l[k].2) → some (Sum.inl (l[k].2, ((k : Int) + 1), o ++ [[l[k].1]])) = (some (.inl ((stepB most many s o l[k]).1, ((k : Int) + 1, (stepB most many s o l[k]).2))) : Option ((Int × (Int × List (List ByteArray))) ⊕ List (List ByteArray))) := by
  intro h
  unfold stepB
  rw [if_pos h]
 by_cases h0 : o = []
 ·have hn : o.length = 0 := by rw [h0]; rfl
  rw [if_pos (by omega)]
  repeat' first | with_reducible refine both_eq ?_ ?_ | with_reducible refine ck_eq ?_ ?_ | exact newF (.inl h0)
  all_goals first | trivial | assumption | omega | (refine ⟨by omega, ?_⟩; simp only [List.length_nil, List.length_cons]; omega) | (simp only [List.length_nil, List.length_cons]; omega)
 ·have hn : 0 < o.length := List.length_pos_iff.2 h0
  have oldF : ¬ (o = [] ∨ many ≤ (lastR o).length ∨ most < s + l[k].2) → some (Sum.inl (s + l[k].2, ((k : Int) + 1), List.set o (o.length - 1) (lastR o ++ [l[k].1]))) = (some (.inl ((stepB most many s o l[k]).1, ((k : Int) + 1, (stepB most many s o l[k]).2))) : Option ((Int × (Int × List (List ByteArray))) ⊕ List (List ByteArray))) := by
   intro h
   unfold stepB
   rw [if_neg h]
  rw [if_neg (by omega), ck_pos hx2]
  by_cases h2 : most < s + l[k].2
  ·rw [if_pos h2]
   repeat' first | with_reducible refine both_eq ?_ ?_ | with_reducible refine ck_eq ?_ ?_ | exact newF (.inr (.inr h2))
   all_goals first | trivial | assumption | omega | (refine ⟨by omega, ?_⟩; simp only [List.length_nil, List.length_cons]; omega) | (simp only [List.length_nil, List.length_cons]; omega)
  ·rw [if_neg h2, ck_pos hn1, ck_pos (by omega), ck_pos (by omega), ck_pos (by omega)]
   by_cases h1 : many ≤ ((lastR o).length : Int)
   ·rw [if_pos h1]
    repeat' first | with_reducible refine both_eq ?_ ?_ | with_reducible refine ck_eq ?_ ?_ | exact newF (.inr (.inl h1))
    all_goals first | trivial | assumption | omega | (refine ⟨by omega, ?_⟩; simp only [List.length_nil, List.length_cons]; omega) | (simp only [List.length_nil, List.length_cons]; omega)
   ·rw [if_neg h1]
    have hno : ¬ (o = [] ∨ many ≤ (lastR o).length ∨ most < s + l[k].2) := fun h => by
     rcases h with h | h | h
     ·exact h0 h
     ·exact h1 h
     ·exact h2 h
    repeat' first | with_reducible refine both_eq ?_ ?_ | with_reducible refine ck_eq ?_ ?_ | exact oldF hno
    all_goals first | trivial | assumption | omega | (refine ⟨by omega, ?_⟩; simp only [List.length_nil, List.length_cons]; omega) | (simp only [List.length_nil, List.length_cons]; omega)
end Go.Proofs.YtpeiomhgaembaaaDoor
set_option linter.unusedVariables false
set_option linter.unusedSimpArgs false
namespace Go.Proofs.YtpeiomhgaembaaaDoor
open Go Go.Proofs.YtpeiomhgaembaaaDoor.Eng
def okS (l : List Sz) : Prop := l.length ≤ 4000 ∧ ∀ x ∈ l, 0 ≤ x.2 ∧ x.2 ≤ 2000000
theorem sizesLoop (l : List Sz) (hl : l.length ≤ 4000) : ∀ (n k : Nat), l.length - k = n → k ≤ l.length →
  ∃ r, wire_CheckSizes.l0 l l (l.length : Int) (k : Int) = some r ∧ (∀ c, r = .inl c → c ≠ 0) ∧ (r = .inr () → ∀ x ∈ l.drop k, 0 ≤ x.2 ∧ x.2 ≤ 2000000) := by
 intro n
 induction n with
 | zero =>
  intro k hn hk
  obtain rfl : k = l.length := by omega
  refine ⟨.inr (), loopX_done ?_, fun c h => (by cases h), fun _ x hx => ?_⟩
  ·simp only [wire_CheckSizes.s0, cb_dec]
   rw [if_neg (by omega)]
  ·rw [List.drop_length] at hx; cases hx
 | succ n ih =>
  intro k hn hk
  have hlt : k < l.length := by omega
  obtain ⟨r, h1, h2, h3⟩ := ih (k + 1) (by omega) (by omega)
  obtain ⟨b, hb⟩ := isDigest_eq l[k].1
  have hx1 : InR ((k : Int) + 1) := by unfold InR; omega
  have hx2 : InR ((k : Int) - 1) := by unfold InR; omega
  have bad : ∀ c : Int, c ≠ 0 → wire_CheckSizes.s0 l l (l.length : Int) (k : Int) = some (.inr (.inl c)) → ∃ r, wire_CheckSizes.l0 l l (l.length : Int) (k : Int) = some r ∧ (∀ c, r = .inl c → c ≠ 0) ∧ (r = .inr () → ∀ x ∈ l.drop k, 0 ≤ x.2 ∧ x.2 ≤ 2000000) := fun c hc h =>
   ⟨.inl c, loopX_done h, fun c' h' => (by cases h'; exact hc), fun h' => (by cases h')⟩
  by_cases hb1 : b = true
  ·by_cases hw : 0 ≤ l[k].2 ∧ l[k].2 ≤ 2000000
   ·have go : wire_CheckSizes.s0 l l (l.length : Int) (k : Int) = some (.inl ((k : Int) + 1)) → ∃ r, wire_CheckSizes.l0 l l (l.length : Int) (k : Int) = some r ∧ (∀ c, r = .inl c → c ≠ 0) ∧ (r = .inr () → ∀ x ∈ l.drop k, 0 ≤ x.2 ∧ x.2 ≤ 2000000) := fun h =>
     ⟨r, (loopX_next h).trans h1, h2, fun h' x hx => by
      rw [List.drop_eq_getElem_cons hlt] at hx
      rcases List.mem_cons.1 hx with rfl | hx
      ·exact hw
      ·exact h3 h' x hx⟩
    by_cases hk0 : (0 : Int) < (k : Int)
    ·obtain ⟨k', rfl⟩ : ∃ k', k = k' + 1 := ⟨k - 1, by omega⟩
     have ek : (((k' + 1 : Nat) : Int) - 1) = (k' : Int) := by omega
     have hlt' : k' < l.length := by omega
     by_cases hs : (bless l[k' + 1].1 l[k'].1 || decide (l[k' + 1].1 = l[k'].1)) = true
     ·refine bad 8 (by decide) ?_
      simp only [wire_CheckSizes.s0, cb_dec, cb_not, rd_lt hlt, hb, ob_s, within_eq, hb1, cb_t]
      rw [if_pos (by omega), ck_pos (by omega), if_pos hw, if_pos hk0, ck_pos hx2]
      simp only [ek, rd_lt hlt', hs, cb_t]
      rw [ck_pos (by omega)]
     ·refine go ?_
      have hs' : (bless l[k' + 1].1 l[k'].1 || decide (l[k' + 1].1 = l[k'].1)) = false := by simpa using hs
      simp only [wire_CheckSizes.s0, cb_dec, cb_not, rd_lt hlt, hb, ob_s, within_eq, hb1, cb_t]
      rw [if_pos (by omega), ck_pos (by omega), if_pos hw, if_pos hk0, ck_pos hx2]
      simp only [ek, rd_lt hlt', hs', cb_f]
      rw [ck_pos (by omega), ck_pos hx1]
    ·refine go ?_
     simp only [wire_CheckSizes.s0, cb_dec, cb_not, rd_lt hlt, hb, ob_s, within_eq, hb1, cb_t]
     rw [if_pos (by omega), ck_pos (by omega), if_pos hw, if_neg hk0, ck_pos hx1]
   ·refine bad 1 (by decide) ?_
    simp only [wire_CheckSizes.s0, cb_dec, cb_not, rd_lt hlt, hb, ob_s, within_eq, hb1, cb_t]
    rw [if_pos (by omega), ck_pos (by omega), if_neg hw]
  ·have hb' : b = false := by simpa using hb1
   refine bad 3 (by decide) ?_
   simp only [wire_CheckSizes.s0, cb_dec, cb_not, rd_lt hlt, hb, ob_s, hb', cb_f]
   rw [if_pos (by omega), ck_pos (by omega)]
theorem sizes_eq (l : List Sz) : ∃ c : Int, wire_CheckSizes.f l = some c ∧ (c = 0 → okS l) := by
 unfold wire_CheckSizes.f
 simp only [cb_dec]
 by_cases h : (4000 : Int) < (l.length : Int)
 ·rw [if_pos h]; exact ⟨2, rfl, fun h => by cases h⟩
 ·rw [if_neg h]
  obtain ⟨r, h1, h2, h3⟩ := sizesLoop l (by omega) l.length 0 (by omega) (by omega)
  rw [show ((0 : Nat) : Int) = 0 from rfl] at h1
  rw [h1, ob_s]
  cases r with
  | inl c => exact ⟨c, rfl, fun h => absurd h (h2 c rfl)⟩
  | inr u => exact ⟨0, rfl, fun _ => ⟨by omega, by simpa using h3 rfl⟩⟩
theorem sizes8_eq : ref8_CheckSizes.f = wire_CheckSizes.f := rfl
noncomputable def runB (most many : Int) : List Sz → Int → List (List ByteArray) → List (List ByteArray)
 | [], _, o => o
 | x :: l, s, o => runB most many l (stepB most many s o x).1 (stepB most many s o x).2
theorem lastR_new (o : List (List ByteArray)) (r : List ByteArray) : lastR (o ++ [r]) = r := by
 unfold lastR
 simp [List.getD]
theorem lastR_set {o : List (List ByteArray)} (h : o ≠ []) (r : List ByteArray) : lastR (List.set o (o.length - 1) r) = r := by
 have := List.length_pos_iff.2 h
 unfold lastR
 rw [List.length_set, List.getD, List.getElem?_set_self (by omega)]
 rfl
theorem stepB_in {most many s : Int} {o : List (List ByteArray)} {x : Sz} {k : Nat} (hx : 0 ≤ x.2 ∧ x.2 ≤ 2000000) (hs : 0 ≤ s ∧ s ≤ 2000000 * k) (ho : o.length ≤ k) (hr : (lastR o).length ≤ k) :
  (0 ≤ (stepB most many s o x).1 ∧ (stepB most many s o x).1 ≤ 2000000 * (k + 1 : Nat)) ∧ (stepB most many s o x).2.length ≤ k + 1 ∧ (lastR (stepB most many s o x).2).length ≤ k + 1 := by
 unfold stepB
 by_cases h : o = [] ∨ many ≤ (lastR o).length ∨ most < s + x.2
 ·rw [if_pos h]
  refine ⟨⟨hx.1, ?_⟩, by simp; omega, ?_⟩
  ·show x.2 ≤ _
   omega
  ·show (lastR (o ++ [[x.1]])).length ≤ _
   rw [lastR_new]; simp
 ·rw [if_neg h]
  have h0 : o ≠ [] := fun e => h (.inl e)
  refine ⟨⟨by show 0 ≤ s + x.2; omega, by show s + x.2 ≤ _; omega⟩, by simp; omega, ?_⟩
  show (lastR (List.set o (o.length - 1) (lastR o ++ [x.1]))).length ≤ _
  rw [lastR_set h0]; simp; omega
theorem batchLoop (most many : Int) (l : List Sz) (hl : okS l) : ∀ (n k : Nat) (s : Int) (o : List (List ByteArray)), l.length - k = n → k ≤ l.length → (0 ≤ s ∧ s ≤ 2000000 * k) → o.length ≤ k → (lastR o).length ≤ k →
  wire_Batches.l0 most many l (l.length : Int) s (k : Int) o = some (runB most many (l.drop k) s o) ∧ ref8_Batches.l0 most many l (l.length : Int) s (k : Int) o = some (runB most many (l.drop k) s o) := by
 intro n
 induction n with
 | zero =>
  intro k s o hn hk hs ho hr
  obtain rfl : k = l.length := by omega
  rw [List.drop_length]
  refine ⟨loopX_done ?_, loopX_done ?_⟩
  ·simp only [wire_Batches.s0, cb_dec]; rw [if_neg (by omega)]; rfl
  ·simp only [ref8_Batches.s0, cb_dec]; rw [if_neg (by omega)]; rfl
 | succ n ih =>
  intro k s o hn hk hs ho hr
  have hlt : k < l.length := by omega
  have hx := hl.2 l[k] (List.getElem_mem hlt)
  have h4 := hl.1
  obtain ⟨i1, i2, i3⟩ := stepB_in (most := most) (many := many) hx hs ho hr
  obtain ⟨h1, h2⟩ := ih (k + 1) _ _ (by omega) (by omega) i1 i2 i3
  rw [List.drop_eq_getElem_cons hlt]
  have a1 : 0 ≤ s ∧ s ≤ 2000000 * 4000 := by omega
  have a2 : o.length ≤ 4000 := by omega
  have a3 : (lastR o).length ≤ 4000 := by omega
  exact ⟨(loopX_next (stepW hlt h4 hx a1 a2 a3)).trans h1, (loopX_next (stepR hlt h4 hx a1 a2 a3)).trans h2⟩
noncomputable def batchesR (c : Int) (l : List Sz) (most many : Int) : List (List ByteArray) × Int :=
 if c ≠ 0 then ([], c) else if ¬ (1 ≤ most ∧ most ≤ 2000000) then ([], 1) else if ¬ (1 ≤ many ∧ many ≤ 4000) then ([], 1) else (runB most many l 0 [], 0)
theorem batches_eq {l : List Sz} {c : Int} (most many : Int) (hc : wire_CheckSizes.f l = some c) (h0 : c = 0 → okS l) : wire_Batches.f l most many = some (batchesR c l most many) ∧ ref8_Batches.f l most many = some (batchesR c l most many) := by
 unfold wire_Batches.f ref8_Batches.f batchesR
 rw [sizes8_eq, hc, ob_s, ob_s]
 simp only [within_eq, within8_eq, ob_s, cb_not, cb_dec]
 by_cases h1 : c = 0
 ·simp only [if_pos h1, if_neg (show ¬ (c ≠ 0) from fun h => h h1)]
  by_cases h2 : 1 ≤ most ∧ most ≤ 2000000
  ·simp only [if_pos h2, if_neg (show ¬ ¬ (1 ≤ most ∧ most ≤ 2000000) from fun h => h h2)]
   by_cases h3 : 1 ≤ many ∧ many ≤ 4000
   ·simp only [if_pos h3, if_neg (show ¬ ¬ (1 ≤ many ∧ many ≤ 4000) from fun h => h h3)]
    obtain ⟨h4, h5⟩ := batchLoop most many l (h0 h1) l.length 0 0 [] (by omega) (by omega) (by simp) (by simp) (by simp [lastR, List.getD])
    rw [show ((0 : Nat) : Int) = 0 from rfl, List.drop_zero] at h4 h5
    rw [h4, h5]
    exact ⟨rfl, rfl⟩
   ·simp only [if_neg h3, if_pos h3]; exact ⟨trivial, trivial⟩
  ·simp only [if_neg h2, if_pos h2]; exact ⟨trivial, trivial⟩
 ·simp only [if_neg h1, if_pos h1]; exact ⟨trivial, trivial⟩
end Go.Proofs.YtpeiomhgaembaaaDoor
set_option linter.unusedVariables false
set_option linter.unusedSimpArgs false
namespace Go.Proofs.YtpeiomhgaembaaaDoor
open Go Go.Proofs.YtpeiomhgaembaaaDoor.Eng
def sumS : List Sz → Int
 | [] => 0
 | x :: l => x.2 + sumS l
theorem sumS_app (a b : List Sz) : sumS (a ++ b) = sumS a + sumS b := by
 induction a with
 | nil => simp [sumS]
 | cons x a ih => simp only [List.cons_append, sumS, ih]; omega
def goodB (most many : Int) (r : List Sz) : Prop := r ≠ [] ∧ (r.length : Int) ≤ many ∧ (sumS r ≤ most ∨ r.length = 1)
def nameB (q : List (List Sz)) : List (List ByteArray) := q.map fun r => r.map (·.1)
theorem runB_good {most many : Int} (hm : 1 ≤ many) : ∀ (l : List Sz) (q : List (List Sz)) (s : Int), (∀ r ∈ q, goodB most many r) → (∀ r, q.getLast? = some r → s = sumS r) →
  ∃ q', runB most many l s (nameB q) = nameB q' ∧ q'.flatten = q.flatten ++ l ∧ ∀ r ∈ q', goodB most many r := by
 intro l
 induction l with
 | nil => intro q s hq hs; exact ⟨q, rfl, by simp, hq⟩
 | cons x l ih =>
  intro q s hq hs
  have newC : (nameB q = [] ∨ many ≤ (lastR (nameB q)).length ∨ most < s + x.2) → ∃ q', runB most many (x :: l) s (nameB q) = nameB q' ∧ q'.flatten = q.flatten ++ (x :: l) ∧ ∀ r ∈ q', goodB most many r := by
   intro h
   obtain ⟨q', h1, h2, h3⟩ := ih (q ++ [[x]]) x.2 (fun r hr => by
    rcases List.mem_append.1 hr with hr | hr
    ·exact hq r hr
    ·obtain rfl := List.mem_singleton.1 hr
     exact ⟨by simp, by simpa using hm, .inr rfl⟩) (fun r hr => by
    simp at hr
    subst hr
    simp [sumS])
   refine ⟨q', ?_, by rw [h2]; simp, h3⟩
   rw [← h1]
   show runB most many l (stepB most many s (nameB q) x).1 (stepB most many s (nameB q) x).2 = _
   unfold stepB
   rw [if_pos h]
   simp [nameB]
  by_cases h : nameB q = [] ∨ many ≤ (lastR (nameB q)).length ∨ most < s + x.2
  ·exact newC h
  ·have h0 : q ≠ [] := fun e => h (.inl (by rw [e]; rfl))
   obtain ⟨p, r, rfl⟩ : ∃ p r, q = p ++ [r] := ⟨q.dropLast, q.getLast h0, (List.dropLast_concat_getLast h0).symm⟩
   have hl : lastR (nameB (p ++ [r])) = r.map (·.1) := by
    have : nameB (p ++ [r]) = nameB p ++ [r.map (·.1)] := by simp [nameB]
    rw [this, lastR_new]
   have hs' := hs r (by simp)
   have hr := hq r (by simp)
   rw [hl] at h
   simp only [not_or, List.length_map] at h
   obtain ⟨q', h1, h2, h3⟩ := ih (p ++ [r ++ [x]]) (s + x.2) (fun r' hr' => by
    rcases List.mem_append.1 hr' with hr' | hr'
    ·exact hq r' (List.mem_append_left _ hr')
    ·obtain rfl := List.mem_singleton.1 hr'
     refine ⟨by simp, by simp; omega, .inl ?_⟩
     rw [sumS_app, ← hs']
     simp only [sumS]
     omega) (fun r' hr' => by
    simp at hr'
    subst hr'
    rw [sumS_app, ← hs']
    simp [sumS])
   refine ⟨q', ?_, by rw [h2]; simp, h3⟩
   rw [← h1]
   show runB most many l (stepB most many s (nameB (p ++ [r])) x).1 (stepB most many s (nameB (p ++ [r])) x).2 = _
   unfold stepB
   rw [hl, if_neg (by simp only [not_or, List.length_map]; exact h)]
   congr 1
   have : nameB (p ++ [r]) = nameB p ++ [r.map (·.1)] := by simp [nameB]
   rw [this]
   simp [nameB, List.set_append_right]
theorem innerB (l : List Sz) (hl : okS l) (r : List Sz) (base : Nat) (rest : List Sz) (hd : l.drop base = r ++ rest) : ∀ (n k : Nat), r.length - k = n → k ≤ r.length →
  law8_WireBatchesHoldAll.l1 l (r.map (·.1)) (r.length : Int) ((base + k : Nat) : Int) (sumS (r.take k)) (k : Int) = some (.inr (((base + r.length : Nat) : Int), sumS r)) := by
 have hlen : l.length - base = r.length + rest.length := by rw [← List.length_drop, hd, List.length_append]
 have h4 := hl.1
 have hsum : ∀ j, 0 ≤ sumS (r.take j) ∧ sumS (r.take j) ≤ 2000000 * (j : Int) := by
  have hr : ∀ x ∈ r, 0 ≤ x.2 ∧ x.2 ≤ 2000000 := fun x hx => hl.2 x (List.mem_of_mem_drop (i := base) (by rw [hd]; exact List.mem_append_left _ hx))
  intro j
  induction j with
  | zero => simp [sumS]
  | succ j ih =>
   by_cases hj : j < r.length
   ·rw [List.take_succ_eq_append_getElem hj, sumS_app]
    have := hr r[j] (List.getElem_mem hj)
    simp only [sumS]
    omega
   ·rw [List.take_of_length_le (by omega)] at ih ⊢
    omega
 intro n
 induction n with
 | zero =>
  intro k hn hk
  obtain rfl : k = r.length := by omega
  rw [List.take_length]
  refine loopX_done ?_
  simp only [law8_WireBatchesHoldAll.s1, cb_dec]
  rw [if_neg (by omega)]
 | succ n ih =>
  intro k hn hk
  have hlt : k < r.length := by omega
  have hlt2 : k < (r.map (·.1)).length := by simpa using hlt
  have hb : base + k < l.length := by omega
  have hget : l[base + k] = r[k] := by
   have h1 : (l.drop base)[k]? = some r[k] := by rw [hd, List.getElem?_append_left hlt, List.getElem?_eq_getElem hlt]
   rw [List.getElem?_drop, List.getElem?_eq_getElem hb] at h1
   exact Option.some.inj h1
  have hs1 := hsum k
  have hs2 := hsum (k + 1)
  rw [List.take_succ_eq_append_getElem hlt, sumS_app] at hs2
  simp only [sumS] at hs2
  have hnext := ih (k + 1) (by omega) (by omega)
  rw [List.take_succ_eq_append_getElem hlt, sumS_app] at hnext
  simp only [sumS, Int.add_zero] at hnext hs2
  refine (loopX_next (x' := (((base + (k + 1) : Nat) : Int), (sumS (r.take k) + r[k].2, ((k + 1 : Nat) : Int)))) ?_).trans hnext
  simp only [law8_WireBatchesHoldAll.s1, cb_dec, cb_not, rd_lt hlt2, rd_lt hb, hget, List.getElem_map]
  have hlm : ((r.map (·.1)).length : Int) = (r.length : Int) := by simp
  rw [if_pos (by omega), ck_pos (by rw [hlm]; omega), if_neg (by omega), ck_pos (by omega), if_pos trivial, ck_pos (by omega), ck_in (by omega) (by omega), ck_in (by omega) (by omega), ck_in (by omega) (by omega)]
  rfl
theorem outerB {most many : Int} (l : List Sz) (hl : okS l) (q : List (List Sz)) (hq : ∀ r ∈ q, goodB most many r) (hf : q.flatten = l) : ∀ (n k : Nat), q.length - k = n → k ≤ q.length →
  law8_WireBatchesHoldAll.l0 l most many (nameB q) ((nameB q).length : Int) (((q.take k).flatten.length : Nat) : Int) (k : Int) = some (.inr (l.length : Int)) := by
 have hql : q.length ≤ l.length := by
  rw [← hf]
  clear hf
  induction q with
  | nil => simp
  | cons r q ih =>
   have h1 := List.length_pos_iff.2 (hq r (List.mem_cons_self ..)).1
   have h2 := ih (fun r hr => hq r (List.mem_cons_of_mem _ hr))
   simp only [List.flatten_cons, List.length_append, List.length_cons]
   omega
 have h4 := hl.1
 have hnl : ((nameB q).length : Int) = (q.length : Int) := by simp [nameB]
 intro n
 induction n with
 | zero =>
  intro k hn hk
  obtain rfl : k = q.length := by omega
  refine loopX_done ?_
  simp only [law8_WireBatchesHoldAll.s0, cb_dec]
  rw [if_neg (by omega), List.take_length, hf]
 | succ n ih =>
  intro k hn hk
  have hlt : k < q.length := by omega
  have hlt2 : k < (nameB q).length := by simpa [nameB] using hlt
  have hg := hq q[k] (List.getElem_mem hlt)
  have hd : l.drop (q.take k).flatten.length = q[k] ++ (q.drop (k + 1)).flatten := by
   have hq0 : q = q.take k ++ (q[k] :: q.drop (k + 1)) := by rw [← List.drop_eq_getElem_cons hlt, List.take_append_drop]
   have : l = (q.take k).flatten ++ (q[k] ++ (q.drop (k + 1)).flatten) :=
    hf.symm.trans ((congrArg List.flatten hq0).trans (by rw [List.flatten_append, List.flatten_cons]))
   conv => lhs; rw [this]
   exact List.drop_left' rfl
  have hin := innerB l hl q[k] (q.take k).flatten.length _ hd q[k].length 0 (by omega) (by omega)
  rw [show ((0 : Nat) : Int) = 0 from rfl, Nat.add_zero, List.take_zero] at hin
  have hnext := ih (k + 1) (by omega) (by omega)
  have e : (q.take (k + 1)).flatten.length = (q.take k).flatten.length + q[k].length := by
   rw [List.take_succ_eq_append_getElem hlt]
   simp only [List.flatten_append, List.length_append, List.flatten_cons, List.flatten_nil, List.append_nil]
  rw [e] at hnext
  refine (loopX_next (x' := ((((q.take k).flatten.length + q[k].length : Nat) : Int), ((k + 1 : Nat) : Int))) ?_).trans hnext
  have hrow : (nameB q)[k] = q[k].map (·.1) := by simp [nameB]
  have hlm : ((q[k].map (·.1)).length : Int) = (q[k].length : Int) := by simp
  have hpos := List.length_pos_iff.2 hg.1
  have hin' : law8_WireBatchesHoldAll.l1 l (q[k].map (·.1)) (q[k].length : Int) (((q.take k).flatten.length : Nat) : Int) 0 0 = some (.inr ((((q.take k).flatten.length + q[k].length : Nat) : Int), sumS q[k])) := hin
  simp only [law8_WireBatchesHoldAll.s0, cb_dec, cb_not, rd_lt hlt2, hrow, hlm, hin', ob_s, caseS_r]
  rw [if_pos (by omega), ck_pos (by omega), if_neg (by omega), if_neg (by have := hg.2.1; omega)]
  by_cases hm : most < sumS q[k]
  ·have h1 : q[k].length = 1 := by
    rcases hg.2.2 with h | h
    ·omega
    ·exact h
   rw [if_pos hm, if_neg (by omega), ck_in (by omega) (by omega)]
   rfl
  ·rw [if_neg hm, ck_in (by omega) (by omega)]
   rfl
theorem law_BH (l : List Sz) (most many : Int) : law8_WireBatchesHoldAll.f l most many = some true := by
 obtain ⟨c, hc, h0⟩ := sizes_eq l
 obtain ⟨h1, _⟩ := batches_eq most many hc h0
 unfold law8_WireBatchesHoldAll.f
 rw [h1, ob_s]
 unfold batchesR
 by_cases e1 : c = 0
 ·rw [if_neg (fun h => h e1)]
  by_cases e2 : 1 ≤ most ∧ most ≤ 2000000
  ·rw [if_neg (fun h => h e2)]
   by_cases e3 : 1 ≤ many ∧ many ≤ 4000
   ·rw [if_neg (fun h => h e3)]
    obtain ⟨q, g1, g2, g3⟩ := runB_good (most := most) e3.1 l [] 0 (fun r hr => by cases hr) (fun r hr => by cases hr)
    have g1' : runB most many l 0 [] = nameB q := g1
    rw [g1']
    have hf : q.flatten = l := by simpa using g2
    have ho := outerB l (h0 e1) q g3 hf q.length 0 (by omega) (by omega)
    have ho' : law8_WireBatchesHoldAll.l0 l most many (nameB q) ((nameB q).length : Int) 0 0 = some (.inr (l.length : Int)) := ho
    simp only [ho', ob_s, caseS_r, decide_true, Bool.not_true, cb_f, cb_t, awake_eq]
   ·rw [if_pos e3]; simp only [awake_eq, ob_s]; rfl
  ·rw [if_pos e2]; simp only [awake_eq, ob_s]; rfl
 ·rw [if_pos e1]
  simp only [e1, decide_false, Bool.not_false, cb_t, awake_eq, ob_s]
  rfl
end Go.Proofs.YtpeiomhgaembaaaDoor
set_option linter.unusedVariables false
set_option linter.unusedSimpArgs false
set_option maxRecDepth 100000
set_option maxHeartbeats 4000000
namespace Go.Proofs.YtpeiomhgaembaaaDoor
open Go Go.RowKit Go.ChangeShapes Go.WideShapes Go.ChangeAt Go.Proofs.YtpeiomhgaembaaaDoor.Eng
theorem own : ownKnob Tryd.prog.godebug = none := by kernel_rfl
theorem laidOut : laidOutB Tryd.prog = true := by kernel_rfl
theorem wireBatchesHoldAll_av (xs : List AV) (h : ShapeA T 6 [22,3,3] xs) : FPure Tryd.prog 3 xs (.v (.bool true)) :=
 law_typed (T := T) (m := 6) (ts := [22,3,3]) law8_WireBatchesHoldAll.ok (by kernel_rfl) (fun x hx => law_BH x.1 x.2.1 x.2.2) xs h
theorem wireBatchesHoldAll_lifted (os : Os) (started : os.Started) (H : Type) (enc : TypeId × Value → H) :
  ReturnsInHanded {} Tryd.checked os 3 .any (fun w args => (Rows.wireBatchesHoldAllSpec.pre enc Tryd.prog Tryd.f3 Rows.wireBatchesHoldAllRow.domain false w args ∧ laidMetH Tryd.prog Rows.wireBatchesHoldAllRow.laid w) ∧ sizedMet enc Tryd.prog Tryd.f3 (OpenSpec.ofChange Rows.wireBatchesHoldAllSpec) false w args)
   (Rows.wireBatchesHoldAllSpec.post enc Tryd.prog Tryd.f3 false true false false) := by
 refine returnsInHanded_of_change_and (C := Tryd.checked) (X := fun w _ => laidMetH Tryd.prog Rows.wireBatchesHoldAllRow.laid w) (fun _ _ _ hh h => h.of_heap hh) own started (by kernel_rfl) Tryd.func3
  (ChangeSpec.witness_shaped (enc := enc) (C := Tryd.checked) (os := os) (X := fun w _ => laidMetH Tryd.prog Rows.wireBatchesHoldAllRow.laid w) false (World.laidAll Tryd.prog os Rows.wireBatchesHoldAllRow.laid) #[.slice none 0 0, .int .i64 0, .int .i64 0] 8 (World.laidAll_os _ _ _)
   (World.shaped_of_ZipB (by kernel_rfl) (by kernel_rfl)) (by kernel_rfl) (by kernel_rfl) (by kernel_rfl)
   (by rw [MakeChecks.laidMetH_plain _ _ _ (by kernel_rfl)]; exact laidMet_laidAll _ (by kernel_rfl) (by kernel_rfl))) ?_
 intro W base args ds gs before hval0 hW hcnd hsz0 hL _
 have hW' := hW
 obtain ⟨p, q, hA0, hV, rfl, hfz, hnd⟩ := hW
 have hsz : (DataW.weightsEach Tryd.prog (Tryd.f3.params.toList ++ Rows.wireBatchesHoldAllSpec.plain.varTypes Tryd.prog) (ds ++ gs)).all (· ≤ reachBytes) = true := hsz0
 have hA : DataW.TrodAll enc Tryd.prog W 0 (fun _ => true) true [22,3,3] args.toList ds p := hA0
 obtain ⟨rfl, rfl⟩ := trodVars_none hV
 have hlaw := law_calls (r := .any) (b0 := base) tabOK laidOut wireBatchesHoldAll_av (by decide +kernel) (by kernel_rfl) hA (fun j t v h1 h2 => hval0 j t v (by simpa using h1) (by simpa using h2)) (by rw [List.append_nil] at hsz; exact hsz)
 simp only [Array.toArray_toList] at hlaw
 refine hlaw.mono fun e W' ⟨he, bel, hback⟩ => ?_
 subst he
 obtain ⟨d1, d2, d3, hds⟩ : ∃ d1 d2 d3, ds = [d1, d2, d3] := by
  obtain ⟨_, _, d1, _, _, _, _, rfl, _, _, h⟩ := trodAll_cons hA
  obtain ⟨_, _, d2, _, _, _, _, rfl, _, _, h⟩ := trodAll_cons h
  obtain ⟨_, _, d3, _, _, _, _, rfl, _, _, h⟩ := trodAll_cons h
  obtain ⟨_, rfl, _⟩ := trodAll_nil h
  exact ⟨d1, d2, d3, rfl⟩
 subst hds
 exact ⟨_, rfl, _, _, _, [], _, [], hW', trodAll_mk1 (shut_bool Tryd.underlying4 _), hback, rfl, bel.frame _, fun h => by cases h⟩
theorem wireBatchesHoldAll_facts : joinedFacts Tryd.prog 3 Tryd.f3 Rows.wireBatchesHoldAllSpec Rows.wireBatchesHoldAllRow = true := by kernel_rfl
theorem wireBatchesHoldAll_over : Rows.wireBatchesHoldAllRow.holds Tryd.pinned (OpenSpec.ofChange Rows.wireBatchesHoldAllSpec) :=
 OpenClaim.holds_of_wide 3 Tryd.f3 rfl rfl rfl rfl rfl rfl rfl ⟨rfl, rfl, rfl, rfl, rfl⟩ rfl rfl rfl rfl rfl (by kernel_rfl) Tryd.func3 wireBatchesHoldAll_facts
  (of_decide_eq_true (by kernel_rfl)) (by unfold Func.isWrapper; first | (rw [if_pos (by decide +kernel)]; kernel_rfl) | (rw [if_neg (by decide +kernel)]; exact ⟨rfl, rfl⟩))
  (fun os started H enc _ => wireBatchesHoldAll_lifted os started H enc)
theorem wireBatchesHoldAll_wf : Rows.wireBatchesHoldAllRow.wfByText (OpenSpec.ofChange Rows.wireBatchesHoldAllSpec) = true := by kernel_rfl
theorem wireBatchesHoldAll_main : Tryd.pinned.checked.prog.mainIs = some (true, "e39929bad2eab1783ee56fd07625803768cd0b14b7dff25f9ddf956a9ecc1117".toList) := by kernel_rfl
theorem wireBatchesHoldAll_looks : false = Tryd.pinned.checked.prog.looks [] := by kernel_rfl
theorem wireBatchesHoldAll_goes : false = Rows.wireBatchesHoldAllRow.goesBy Tryd.pinned.checked.prog := by kernel_rfl
theorem wireBatchesHoldAll_named : Tryd.prog.funcNamed "smithyard/smithyardlaw8.WireBatchesHoldAll" = some 3 := by kernel_rfl
theorem wireBatchesHoldAll_noStand : ([22,3,3].all fun u => !Tryd.prog.wantsStandIn u) = true := by kernel_rfl
theorem wireBatchesHoldAll_holds : Rows.WireBatchesHoldAllCardSaid :=
 Claim7.holds_tied_plain_at .later [] [.data, .pinned] true (true, "e39929bad2eab1783ee56fd07625803768cd0b14b7dff25f9ddf956a9ecc1117") false wireBatchesHoldAll_over (fun _ h => by cases h) wireBatchesHoldAll_wf (fun _ h => by cases h) wireBatchesHoldAll_row_tie rfl ⟨rfl, rfl⟩ wireBatchesHoldAll_main rfl
  (fun f fn hf hfn => by
   obtain rfl : f = 3 := Option.some.inj (wireBatchesHoldAll_named.symm.trans hf) |>.symm
   obtain rfl : fn = Tryd.f3 := (Option.some.inj (Tryd.func3.symm.trans hfn)).symm
   exact ⟨wireBatchesHoldAll_looks, fun j t ht => by
    rw [Tryd.params3] at ht
    have hm : t ∈ [22,3,3] := by simpa using Array.mem_of_getElem? ht
    exact (show Tryd.prog.wantsStandIn t = false by simpa using List.all_eq_true.1 wireBatchesHoldAll_noStand t hm)⟩)
  wireBatchesHoldAll_goes
end Go.Proofs.YtpeiomhgaembaaaDoor
