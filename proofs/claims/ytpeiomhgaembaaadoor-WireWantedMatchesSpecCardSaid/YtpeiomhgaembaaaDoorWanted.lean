/-
  The law WireWantedMatchesSpec hands back true for every argument, and leaves its arguments as they were; its card is tied to the program. No condition.
-/
import Derived.Test.YtpeiomhgaembaaaDoorFun
import Derived.Test.YtpeiomhgaembaaaDoorTypB
import Derived.Test.YtpeiomhgaembaaaDoorRows
import Derived.Test.YtpeiomhgaembaaaDoorCards
import Derived.Test.YtpeiomhgaembaaaDoorTie
import Derived.ProofKit
import Derived.LaidMore
import Derived.Lay
import Derived.OpenShut
import Derived.SevenTiedAt
import Derived.Stop.Joined
set_option linter.unusedVariables false
set_option linter.unusedSimpArgs false
namespace Go.Proofs.YtpeiomhgaembaaaDoor
open Go Go.Proofs.YtpeiomhgaembaaaDoor.Eng
theorem ck_dec {β : Type} {c : Prop} [h : Decidable c] {a : Option β} : ck c a = if c then a else none := by
 by_cases hc : c
 ·rw [ck_pos hc, if_pos hc]
 ·rw [if_neg hc]; unfold ck; rw [if_neg hc]
instance inR_dec (x : Int) : Decidable (InR x) := by unfold InR; infer_instance
theorem within_eq (a b c : Int) : wire_within.f a b c = some (decide (b ≤ a ∧ a ≤ c)) := by
 unfold wire_within.f
 rw [cb_dec]
 by_cases h : b ≤ a <;> simp [h]
theorem within8_eq (a b c : Int) : ref8_within.f a b c = some (decide (b ≤ a ∧ a ≤ c)) := by
 unfold ref8_within.f
 rw [cb_dec]
 by_cases h : b ≤ a <;> simp [h]
theorem starts_awake : wire_Starts.f ((2 : Int), (10 : Int)) [((0 : Int), (8 : Int)), ((0 : Int), (8 : Int))] = some ([0, 3], 0) := by
 have q : wire_CheckQuota.f ((2 : Int), (10 : Int)) = some 0 := by
  simp only [wire_CheckQuota.f, within_eq, ob_s]; rfl
 have l0 : wire_Starts.l0 [((0 : Int), (8 : Int)), ((0 : Int), (8 : Int))] ((2 : Int), (10 : Int)) [((0 : Int), (8 : Int)), ((0 : Int), (8 : Int))] 2 0 = some (.inr ()) := by
  refine (loopX_next (x' := 1) ?_).trans ((loopX_next (x' := 2) ?_).trans (loopX_done ?_))
  ·simp only [wire_Starts.s0, ck_dec, within_eq, ob_s]; rfl
  ·simp only [wire_Starts.s0, ck_dec, within_eq, ob_s]; rfl
  ·simp only [wire_Starts.s0, ck_dec, within_eq, ob_s]; rfl
 have l1 : wire_Starts.l1 ((2 : Int), (10 : Int)) [((0 : Int), (8 : Int)), ((0 : Int), (8 : Int))] 2 0 10 0 [] = some (3, [0, 3]) := by
  refine (loopX_next (x' := (0, 2, 1, [0])) ?_).trans ((loopX_next (x' := (3, 0, 2, [0, 3])) ?_).trans (loopX_done ?_))
  ·simp only [wire_Starts.s1, ck_dec]; rfl
  ·simp only [wire_Starts.s1, ck_dec]; rfl
  ·simp only [wire_Starts.s1, ck_dec]; rfl
 unfold wire_Starts.f
 rw [q, ob_s]
 show ob (wire_Starts.l0 [((0 : Int), (8 : Int)), ((0 : Int), (8 : Int))] ((2 : Int), (10 : Int)) [((0 : Int), (8 : Int)), ((0 : Int), (8 : Int))] 2 0) _ = _
 rw [l0, ob_s, caseS_r]
 show ob (wire_Starts.l1 ((2 : Int), (10 : Int)) [((0 : Int), (8 : Int)), ((0 : Int), (8 : Int))] 2 0 10 0 []) _ = _
 rw [l1, ob_s]
 rfl
theorem awake_eq : law8_awake.f = some true := by
 unfold law8_awake.f
 rw [starts_awake, ob_s]
 simp only [ck_dec]
 rfl
theorem isDigest_eq (s : ByteArray) : ∃ b : Bool, blob_IsDigest.f s = some b := by
 unfold blob_IsDigest.f
 simp only [cb_dec]
 by_cases h : (s.size : Int) = 16
 ·rw [if_pos h]
  unfold strings_Trim.f
  rw [ck_pos ⟨by omega, by decide, by decide⟩, ob_s]
  exact ⟨_, rfl⟩
 ·rw [if_neg h]; exact ⟨_, rfl⟩
end Go.Proofs.YtpeiomhgaembaaaDoor
set_option linter.unusedVariables false
set_option linter.unusedSimpArgs false
namespace Go.Proofs.YtpeiomhgaembaaaDoor
open Go Go.Proofs.YtpeiomhgaembaaaDoor.Eng
abbrev Sz := ByteArray × Int
noncomputable def lastR (o : List (List ByteArray)) : List ByteArray := List.getD o (o.length - 1) []
noncomputable def stepB (most many : Int) (s : Int) (o : List (List ByteArray)) (x : Sz) : Int × List (List ByteArray) :=
 if o = [] ∨ many ≤ (lastR o).length ∨ most < s + x.2 then (x.2, o ++ [[x.1]]) else (s + x.2, List.set o (o.length - 1) (lastR o ++ [x.1]))
theorem both_eq {β : Type} {a b r : Option β} (h1 : a = r) (h2 : b = r) : both a b = r := by rw [h1, h2]; exact both_same r
theorem ck_eq {β : Type} {c : Prop} {a r : Option β} (h1 : c) (h2 : a = r) : ck c a = r := by rw [ck_pos h1]; exact h2
set_option maxHeartbeats 2000000 in
theorem stepW {most many : Int} {l : List Sz} {k : Nat} {s : Int} {o : List (List ByteArray)} (hk : k < l.length) (hl : l.length ≤ 4000) (hsz : 0 ≤ l[k].2 ∧ l[k].2 ≤ 2000000) (hs : 0 ≤ s ∧ s ≤ 2000000 * 4000) (ho : o.length ≤ 4000) (hr : (lastR o).length ≤ 4000) :
  wire_Batches.s0 most many l (l.length : Int) s (k : Int) o = some (.inl ((stepB most many s o l[k]).1, ((k : Int) + 1, (stepB most many s o l[k]).2))) := by
 have hkI : (0 : Int) ≤ k ∧ (k : Int) < (l.length : Int) := by omega
 have hk1 : InR ((k : Int) + 1) := by unfold InR; omega
 have hx1 : InR (0 + l[k].2) := by unfold InR; omega
 have hx2 : InR (s + l[k].2) := by unfold InR; omega
 have hn1 : InR ((o.length : Int) - 1) := by unfold InR; omega
 have hn2 : InR ((o.length : Int) - 1 + 1) := by unfold InR; omega
 have e1 : Int.toNat ((o.length : Int) - 1 + 1) = o.length := by omega
 have e2 : Int.toNat ((o.length : Int) - 1) = o.length - 1 := by omega
 have g1 : List.getD (o ++ List.replicate 1 ([] : List ByteArray)) o.length [] = [] := by simp [List.getD]
 have g2 : List.set (o ++ List.replicate 1 ([] : List ByteArray)) o.length ([] ++ [l[k].1]) = o ++ [[l[k].1]] := by
  rw [List.set_append_right _ _ (Nat.le_refl _)]; simp
 have g3 : (o ++ List.replicate 1 ([] : List ByteArray)).length = o.length + 1 := by simp
 have g4 : (List.replicate 1 ([] : List ByteArray)).length = 1 := rfl
 have g5 : (o ++ [[l[k].1]]).length = o.length + 1 := by simp
 have g6 : List.getD o (o.length - 1) [] = lastR o := rfl
 have g7 : (List.set o (o.length - 1) (lastR o ++ [l[k].1])).length = o.length := by simp
 simp only [wire_Batches.s0, cb_dec, rd_lt hk, mix_eq]
 rw [if_pos hkI.2, ck_pos hkI, ck_pos hn1]
 simp only [e1, e2, g1, g2, g3, g4, g5, g6, g7]
 have newF : (o = [] ∨ many ≤ (lastR o).length ∨ most < s + l[k].2) → ∀ s', s' = 0 + l[k].2 → some (Sum.inl (s', ((k : Int) + 1), o ++ [[l[k].1]])) = (some (.inl ((stepB most many s o l[k]).1, ((k : Int) + 1, (stepB most many s o l[k]).2))) : Option ((Int × (Int × List (List ByteArray))) ⊕ List (List ByteArray))) := by
  intro h s' hs'
  unfold stepB
  rw [if_pos h, hs', Int.zero_add]
 by_cases h0 : o = []
 ·have hn : o.length = 0 := by rw [h0]; rfl
  rw [if_pos (by omega)]
  repeat' first | with_reducible refine both_eq ?_ ?_ | with_reducible refine ck_eq ?_ ?_ | exact newF (.inl h0) _ rfl
  all_goals first | trivial | assumption | omega | (refine ⟨by omega, ?_⟩; simp only [List.length_nil, List.length_cons]; omega) | (simp only [List.length_nil, List.length_cons]; omega)
 ·have hn : 0 < o.length := List.length_pos_iff.2 h0
  have oldF : ¬ (o = [] ∨ many ≤ (lastR o).length ∨ most < s + l[k].2) → some (Sum.inl (s + l[k].2, ((k : Int) + 1), List.set o (o.length - 1) (lastR o ++ [l[k].1]))) = (some (.inl ((stepB most many s o l[k]).1, ((k : Int) + 1, (stepB most many s o l[k]).2))) : Option ((Int × (Int × List (List ByteArray))) ⊕ List (List ByteArray))) := by
   intro h
   unfold stepB
   rw [if_neg h]
  rw [if_neg (by omega), ck_pos (by omega), ck_pos (by omega), ck_pos (by omega)]
  by_cases h1 : many ≤ ((lastR o).length : Int)
  ·rw [if_pos h1]
   repeat' first | with_reducible refine both_eq ?_ ?_ | with_reducible refine ck_eq ?_ ?_ | exact newF (.inr (.inl h1)) _ rfl
   all_goals first | trivial | assumption | omega | (refine ⟨by omega, ?_⟩; simp only [List.length_nil, List.length_cons]; omega) | (simp only [List.length_nil, List.length_cons]; omega)
  ·rw [if_neg h1, ck_pos hx2]
   by_cases h2 : most < s + l[k].2
   ·rw [if_pos h2]
    repeat' first | with_reducible refine both_eq ?_ ?_ | with_reducible refine ck_eq ?_ ?_ | exact newF (.inr (.inr h2)) _ rfl
    all_goals first | trivial | assumption | omega | (refine ⟨by omega, ?_⟩; simp only [List.length_nil, List.length_cons]; omega) | (simp only [List.length_nil, List.length_cons]; omega)
   ·rw [if_neg h2]
    have hno : ¬ (o = [] ∨ many ≤ (lastR o).length ∨ most < s + l[k].2) := fun h => by
     rcases h with h | h | h
     ·exact h0 h
     ·exact h1 h
     ·exact h2 h
    repeat' first | with_reducible refine both_eq ?_ ?_ | with_reducible refine ck_eq ?_ ?_ | exact oldF hno
    all_goals first | trivial | assumption | omega | (refine ⟨by omega, ?_⟩; simp only [List.length_nil, List.length_cons]; omega) | (simp only [List.length_nil, List.length_cons]; omega)
set_option maxHeartbeats 2000000 in
theorem stepR {most many : Int} {l : List Sz} {k : Nat} {s : Int} {o : List (List ByteArray)} (hk : k < l.length) (hl : l.length ≤ 4000) (hsz : 0 ≤ l[k].2 ∧ l[k].2 ≤ 2000000) (hs : 0 ≤ s ∧ s ≤ 2000000 * 4000) (ho : o.length ≤ 4000) (hr : (lastR o).length ≤ 4000) :
  ref8_Batches.s0 most many l (l.length : Int) s (k : Int) o = some (.inl ((stepB most many s o l[k]).1, ((k : Int) + 1, (stepB most many s o l[k]).2))) := by
 have hkI : (0 : Int) ≤ k ∧ (k : Int) < (l.length : Int) := by omega
 have hk1 : InR ((k : Int) + 1) := by unfold InR; omega
 have hx2 : InR (s + l[k].2) := by unfold InR; omega
 have hn1 : InR ((o.length : Int) - 1) := by unfold InR; omega
 have e2 : Int.toNat ((o.length : Int) - 1) = o.length - 1 := by omega
 have g4 : ([[l[k].1]] : List (List ByteArray)).length = 1 := rfl
 have g5 : (o ++ [[l[k].1]]).length = o.length + 1 := by simp
 have g6 : List.getD o (o.length - 1) [] = lastR o := rfl
 have g7 : (List.set o (o.length - 1) (lastR o ++ [l[k].1])).length = o.length := by simp
 simp only [ref8_Batches.s0, cb_dec, rd_lt hk, mix_eq]
 rw [if_pos hkI.2, ck_pos hkI]
 simp only [e2, g4, g5, g6, g7]
 have newF : (o = [] ∨ many ≤ (lastR o).length ∨ most < s + l[k].2) → some (Sum.inl (l[k].2, ((k : Int) + 1), o ++ [[l[k].1]])) = (some (.inl ((stepB most many s o l[k]).1, ((k : Int) + 1, (stepB most many s o l[k]).2))) : Option ((Int × (Int × List (List ByteArray))) ⊕ List (List ByteArray))) := by
  intro h
  unfold stepB
  rw [if_pos h]
 by_cases h0 : o = []
 ·have hn : o.length = 0 := by rw [h0]; rfl
  rw [if_pos (by omega)]
  repeat' first | with_reducible refine both_eq ?_ ?_ | with_reducible refine ck_eq ?_ ?_ | exact newF (.inl h0)
  all_goals first | trivial | assumption | omega | (refine ⟨by omega, ?_⟩; simp only [List.length_nil, List.length_cons]; omega) | (simp only [List.length_nil, List.length_cons]; omega)
 ·have hn : 0 < o.length := List.length_pos_iff.2 h0
  have oldF : ¬ (o = [] ∨ many ≤ (lastR o).length ∨ most < s + l[k].2) → some (Sum.inl (s + l[k].2, ((k : Int) + 1), List.set o (o.length - 1) (lastR o ++ [l[k].1]))) = (some (.inl ((stepB most many s o l[k]).1, ((k : Int) + 1, (stepB most many s o l[k]).2))) : Option ((Int × (Int × List (List ByteArray))) ⊕ List (List ByteArray))) := by
   intro h
   unfold stepB
   rw [if_neg h]
  rw [if_neg (by omega), ck_pos hx2]
  by_cases h2 : most < s + l[k].2
  ·rw [if_pos h2]
   repeat' first | with_reducible refine both_eq ?_ ?_ | with_reducible refine ck_eq ?_ ?_ | exact newF (.inr (.inr h2))
   all_goals first | trivial | assumption | omega | (refine ⟨by omega, ?_⟩; simp only [List.length_nil, List.length_cons]; omega) | (simp only [List.length_nil, List.length_cons]; omega)
  ·rw [if_neg h2, ck_pos hn1, ck_pos (by omega), ck_pos (by omega), ck_pos (by omega)]
   by_cases h1 : many ≤ ((lastR o).length : Int)
   ·rw [if_pos h1]
    repeat' first | with_reducible refine both_eq ?_ ?_ | with_reducible refine ck_eq ?_ ?_ | exact newF (.inr (.inl h1))
    all_goals first | trivial | assumption | omega | (refine ⟨by omega, ?_⟩; simp only [List.length_nil, List.length_cons]; omega) | (simp only [List.length_nil, List.length_cons]; omega)
   ·rw [if_neg h1]
    have hno : ¬ (o = [] ∨ many ≤ (lastR o).length ∨ most < s + l[k].2) := fun h => by
     rcases h with h | h | h
     ·exact h0 h
     ·exact h1 h
     ·exact h2 h
    repeat' first | with_reducible refine both_eq ?_ ?_ | with_reducible refine ck_eq ?_ ?_ | exact oldF hno
    all_goals first | trivial | assumption | omega | (refine ⟨by omega, ?_⟩; simp only [List.length_nil, List.length_cons]; omega) | (simp only [List.length_nil, List.length_cons]; omega)
end Go.Proofs.YtpeiomhgaembaaaDoor
set_option linter.unusedVariables false
set_option linter.unusedSimpArgs false
namespace Go.Proofs.YtpeiomhgaembaaaDoor
open Go Go.Proofs.YtpeiomhgaembaaaDoor.Eng
def okS (l : List Sz) : Prop := l.length ≤ 4000 ∧ ∀ x ∈ l, 0 ≤ x.2 ∧ x.2 ≤ 2000000
theorem sizesLoop (l : List Sz) (hl : l.length ≤ 4000) : ∀ (n k : Nat), l.length - k = n → k ≤ l.length →
  ∃ r, wire_CheckSizes.l0 l l (l.length : Int) (k : Int) = some r ∧ (∀ c, r = .inl c → c ≠ 0) ∧ (r = .inr () → ∀ x ∈ l.drop k, 0 ≤ x.2 ∧ x.2 ≤ 2000000) := by
 intro n
 induction n with
 | zero =>
  intro k hn hk
  obtain rfl : k = l.length := by omega
  refine ⟨.inr (), loopX_done ?_, fun c h => (by cases h), fun _ x hx => ?_⟩
  ·simp only [wire_CheckSizes.s0, cb_dec]
   rw [if_neg (by omega)]
  ·rw [List.drop_length] at hx; cases hx
 | succ n ih =>
  intro k hn hk
  have hlt : k < l.length := by omega
  obtain ⟨r, h1, h2, h3⟩ := ih (k + 1) (by omega) (by omega)
  obtain ⟨b, hb⟩ := isDigest_eq l[k].1
  have hx1 : InR ((k : Int) + 1) := by unfold InR; omega
  have hx2 : InR ((k : Int) - 1) := by unfold InR; omega
  have bad : ∀ c : Int, c ≠ 0 → wire_CheckSizes.s0 l l (l.length : Int) (k : Int) = some (.inr (.inl c)) → ∃ r, wire_CheckSizes.l0 l l (l.length : Int) (k : Int) = some r ∧ (∀ c, r = .inl c → c ≠ 0) ∧ (r = .inr () → ∀ x ∈ l.drop k, 0 ≤ x.2 ∧ x.2 ≤ 2000000) := fun c hc h =>
   ⟨.inl c, loopX_done h, fun c' h' => (by cases h'; exact hc), fun h' => (by cases h')⟩
  by_cases hb1 : b = true
  ·by_cases hw : 0 ≤ l[k].2 ∧ l[k].2 ≤ 2000000
   ·have go : wire_CheckSizes.s0 l l (l.length : Int) (k : Int) = some (.inl ((k : Int) + 1)) → ∃ r, wire_CheckSizes.l0 l l (l.length : Int) (k : Int) = some r ∧ (∀ c, r = .inl c → c ≠ 0) ∧ (r = .inr () → ∀ x ∈ l.drop k, 0 ≤ x.2 ∧ x.2 ≤ 2000000) := fun h =>
     ⟨r, (loopX_next h).trans h1, h2, fun h' x hx => by
      rw [List.drop_eq_getElem_cons hlt] at hx
      rcases List.mem_cons.1 hx with rfl | hx
      ·exact hw
      ·exact h3 h' x hx⟩
    by_cases hk0 : (0 : Int) < (k : Int)
    ·obtain ⟨k', rfl⟩ : ∃ k', k = k' + 1 := ⟨k - 1, by omega⟩
     have ek : (((k' + 1 : Nat) : Int) - 1) = (k' : Int) := by omega
     have hlt' : k' < l.length := by omega
     by_cases hs : (bless l[k' + 1].1 l[k'].1 || decide (l[k' + 1].1 = l[k'].1)) = true
     ·refine bad 8 (by decide) ?_
      simp only [wire_CheckSizes.s0, cb_dec, cb_not, rd_lt hlt, hb, ob_s, within_eq, hb1, cb_t]
      rw [if_pos (by omega), ck_pos (by omega), if_pos hw, if_pos hk0, ck_pos hx2]
      simp only [ek, rd_lt hlt', hs, cb_t]
      rw [ck_pos (by omega)]
     ·refine go ?_
      have hs' : (bless l[k' + 1].1 l[k'].1 || decide (l[k' + 1].1 = l[k'].1)) = false := by simpa using hs
      simp only [wire_CheckSizes.s0, cb_dec, cb_not, rd_lt hlt, hb, ob_s, within_eq, hb1, cb_t]
      rw [if_pos (by omega), ck_pos (by omega), if_pos hw, if_pos hk0, ck_pos hx2]
      simp only [ek, rd_lt hlt', hs', cb_f]
      rw [ck_pos (by omega), ck_pos hx1]
    ·refine go ?_
     simp only [wire_CheckSizes.s0, cb_dec, cb_not, rd_lt hlt, hb, ob_s, within_eq, hb1, cb_t]
     rw [if_pos (by omega), ck_pos (by omega), if_pos hw, if_neg hk0, ck_pos hx1]
   ·refine bad 1 (by decide) ?_
    simp only [wire_CheckSizes.s0, cb_dec, cb_not, rd_lt hlt, hb, ob_s, within_eq, hb1, cb_t]
    rw [if_pos (by omega), ck_pos (by omega), if_neg hw]
  ·have hb' : b = false := by simpa using hb1
   refine bad 3 (by decide) ?_
   simp only [wire_CheckSizes.s0, cb_dec, cb_not, rd_lt hlt, hb, ob_s, hb', cb_f]
   rw [if_pos (by omega), ck_pos (by omega)]
theorem sizes_eq (l : List Sz) : ∃ c : Int, wire_CheckSizes.f l = some c ∧ (c = 0 → okS l) := by
 unfold wire_CheckSizes.f
 simp only [cb_dec]
 by_cases h : (4000 : Int) < (l.length : Int)
 ·rw [if_pos h]; exact ⟨2, rfl, fun h => by cases h⟩
 ·rw [if_neg h]
  obtain ⟨r, h1, h2, h3⟩ := sizesLoop l (by omega) l.length 0 (by omega) (by omega)
  rw [show ((0 : Nat) : Int) = 0 from rfl] at h1
  rw [h1, ob_s]
  cases r with
  | inl c => exact ⟨c, rfl, fun h => absurd h (h2 c rfl)⟩
  | inr u => exact ⟨0, rfl, fun _ => ⟨by omega, by simpa using h3 rfl⟩⟩
theorem sizes8_eq : ref8_CheckSizes.f = wire_CheckSizes.f := rfl
noncomputable def runB (most many : Int) : List Sz → Int → List (List ByteArray) → List (List ByteArray)
 | [], _, o => o
 | x :: l, s, o => runB most many l (stepB most many s o x).1 (stepB most many s o x).2
theorem lastR_new (o : List (List ByteArray)) (r : List ByteArray) : lastR (o ++ [r]) = r := by
 unfold lastR
 simp [List.getD]
theorem lastR_set {o : List (List ByteArray)} (h : o ≠ []) (r : List ByteArray) : lastR (List.set o (o.length - 1) r) = r := by
 have := List.length_pos_iff.2 h
 unfold lastR
 rw [List.length_set, List.getD, List.getElem?_set_self (by omega)]
 rfl
theorem stepB_in {most many s : Int} {o : List (List ByteArray)} {x : Sz} {k : Nat} (hx : 0 ≤ x.2 ∧ x.2 ≤ 2000000) (hs : 0 ≤ s ∧ s ≤ 2000000 * k) (ho : o.length ≤ k) (hr : (lastR o).length ≤ k) :
  (0 ≤ (stepB most many s o x).1 ∧ (stepB most many s o x).1 ≤ 2000000 * (k + 1 : Nat)) ∧ (stepB most many s o x).2.length ≤ k + 1 ∧ (lastR (stepB most many s o x).2).length ≤ k + 1 := by
 unfold stepB
 by_cases h : o = [] ∨ many ≤ (lastR o).length ∨ most < s + x.2
 ·rw [if_pos h]
  refine ⟨⟨hx.1, ?_⟩, by simp; omega, ?_⟩
  ·show x.2 ≤ _
   omega
  ·show (lastR (o ++ [[x.1]])).length ≤ _
   rw [lastR_new]; simp
 ·rw [if_neg h]
  have h0 : o ≠ [] := fun e => h (.inl e)
  refine ⟨⟨by show 0 ≤ s + x.2; omega, by show s + x.2 ≤ _; omega⟩, by simp; omega, ?_⟩
  show (lastR (List.set o (o.length - 1) (lastR o ++ [x.1]))).length ≤ _
  rw [lastR_set h0]; simp; omega
theorem batchLoop (most many : Int) (l : List Sz) (hl : okS l) : ∀ (n k : Nat) (s : Int) (o : List (List ByteArray)), l.length - k = n → k ≤ l.length → (0 ≤ s ∧ s ≤ 2000000 * k) → o.length ≤ k → (lastR o).length ≤ k →
  wire_Batches.l0 most many l (l.length : Int) s (k : Int) o = some (runB most many (l.drop k) s o) ∧ ref8_Batches.l0 most many l (l.length : Int) s (k : Int) o = some (runB most many (l.drop k) s o) := by
 intro n
 induction n with
 | zero =>
  intro k s o hn hk hs ho hr
  obtain rfl : k = l.length := by omega
  rw [List.drop_length]
  refine ⟨loopX_done ?_, loopX_done ?_⟩
  ·simp only [wire_Batches.s0, cb_dec]; rw [if_neg (by omega)]; rfl
  ·simp only [ref8_Batches.s0, cb_dec]; rw [if_neg (by omega)]; rfl
 | succ n ih =>
  intro k s o hn hk hs ho hr
  have hlt : k < l.length := by omega
  have hx := hl.2 l[k] (List.getElem_mem hlt)
  have h4 := hl.1
  obtain ⟨i1, i2, i3⟩ := stepB_in (most := most) (many := many) hx hs ho hr
  obtain ⟨h1, h2⟩ := ih (k + 1) _ _ (by omega) (by omega) i1 i2 i3
  rw [List.drop_eq_getElem_cons hlt]
  have a1 : 0 ≤ s ∧ s ≤ 2000000 * 4000 := by omega
  have a2 : o.length ≤ 4000 := by omega
  have a3 : (lastR o).length ≤ 4000 := by omega
  exact ⟨(loopX_next (stepW hlt h4 hx a1 a2 a3)).trans h1, (loopX_next (stepR hlt h4 hx a1 a2 a3)).trans h2⟩
noncomputable def batchesR (c : Int) (l : List Sz) (most many : Int) : List (List ByteArray) × Int :=
 if c ≠ 0 then ([], c) else if ¬ (1 ≤ most ∧ most ≤ 2000000) then ([], 1) else if ¬ (1 ≤ many ∧ many ≤ 4000) then ([], 1) else (runB most many l 0 [], 0)
theorem batches_eq {l : List Sz} {c : Int} (most many : Int) (hc : wire_CheckSizes.f l = some c) (h0 : c = 0 → okS l) : wire_Batches.f l most many = some (batchesR c l most many) ∧ ref8_Batches.f l most many = some (batchesR c l most many) := by
 unfold wire_Batches.f ref8_Batches.f batchesR
 rw [sizes8_eq, hc, ob_s, ob_s]
 simp only [within_eq, within8_eq, ob_s, cb_not, cb_dec]
 by_cases h1 : c = 0
 ·simp only [if_pos h1, if_neg (show ¬ (c ≠ 0) from fun h => h h1)]
  by_cases h2 : 1 ≤ most ∧ most ≤ 2000000
  ·simp only [if_pos h2, if_neg (show ¬ ¬ (1 ≤ most ∧ most ≤ 2000000) from fun h => h h2)]
   by_cases h3 : 1 ≤ many ∧ many ≤ 4000
   ·simp only [if_pos h3, if_neg (show ¬ ¬ (1 ≤ many ∧ many ≤ 4000) from fun h => h h3)]
    obtain ⟨h4, h5⟩ := batchLoop most many l (h0 h1) l.length 0 0 [] (by omega) (by omega) (by simp) (by simp) (by simp [lastR, List.getD])
    rw [show ((0 : Nat) : Int) = 0 from rfl, List.drop_zero] at h4 h5
    rw [h4, h5]
    exact ⟨rfl, rfl⟩
   ·simp only [if_neg h3, if_pos h3]; exact ⟨trivial, trivial⟩
  ·simp only [if_neg h2, if_pos h2]; exact ⟨trivial, trivial⟩
 ·simp only [if_neg h1, if_pos h1]; exact ⟨trivial, trivial⟩
end Go.Proofs.YtpeiomhgaembaaaDoor
set_option linter.unusedVariables false
set_option linter.unusedSimpArgs false
namespace Go.Proofs.YtpeiomhgaembaaaDoor
open Go Go.Proofs.YtpeiomhgaembaaaDoor.Eng
theorem cloneSz {l : List Sz} (h : l.length * 24 ≤ 140737488355328) : slices_Clone_api_Sized_api_Sized.f l = some l := by
 unfold slices_Clone_api_Sized_api_Sized.f
 by_cases he : l = []
 ·subst he
  rw [ck_pos (by simp)]
  exact nq_same
 ·unfold nq
  rw [if_pos he, ck_pos (by simp; omega)]
  rfl
theorem cloneS {l : List ByteArray} (h : l.length * 16 ≤ 140737488355328) : slices_Clone_string_string.f l = some l := by
 unfold slices_Clone_string_string.f
 by_cases he : l = []
 ·subst he
  rw [ck_pos (by simp)]
  exact nq_same
 ·unfold nq
  rw [if_pos he, ck_pos (by simp; omega)]
  rfl
theorem equalSz (l : List Sz) (h : l.length ≤ 1000000000000000) : slices_Equal_api_Sized_api_Sized.f l l = some true := by
 have go : ∀ (n k : Nat), l.length - k = n → k ≤ l.length → slices_Equal_api_Sized_api_Sized.l0 l l (l.length : Int) (k : Int) = some (.inr ()) := by
  intro n
  induction n with
  | zero =>
   intro k hn hk
   refine loopX_done ?_
   simp only [slices_Equal_api_Sized_api_Sized.s0, cb_dec]
   rw [if_neg (by omega)]
  | succ n ih =>
   intro k hn hk
   have hlt : k < l.length := by omega
   refine (loopX_next ?_).trans (ih (k + 1) (by omega) (by omega))
   have e : ((eqS l[k].1 l[k].1) && ((eqI l[k].2 l[k].2) && true)) = true := by simp [eqS, eqI, beqB]
   simp only [slices_Equal_api_Sized_api_Sized.s0, cb_dec, cb_not, rd_lt hlt, e, cb_t]
   rw [if_pos (by omega), ck_pos (by omega), ck_pos (by omega), ck_in (by omega) (by omega)]
   rfl
 unfold slices_Equal_api_Sized_api_Sized.f
 have := go l.length 0 (by omega) (by omega)
 rw [show ((0 : Nat) : Int) = 0 from rfl] at this
 simp only [decide_true, Bool.not_true, cb_f, this, ob_s, caseS_r]
theorem equalS (l : List ByteArray) (h : l.length ≤ 1000000000000000) : slices_Equal_string_string.f l l = some true := by
 have go : ∀ (n k : Nat), l.length - k = n → k ≤ l.length → slices_Equal_string_string.l0 l l (l.length : Int) (k : Int) = some (.inr ()) := by
  intro n
  induction n with
  | zero =>
   intro k hn hk
   refine loopX_done ?_
   simp only [slices_Equal_string_string.s0, cb_dec]
   rw [if_neg (by omega)]
  | succ n ih =>
   intro k hn hk
   have hlt : k < l.length := by omega
   refine (loopX_next ?_).trans (ih (k + 1) (by omega) (by omega))
   simp only [slices_Equal_string_string.s0, cb_dec, cb_not, rd_lt hlt]
   rw [if_pos (by omega), ck_pos (by omega), ck_pos (by omega), if_pos trivial, ck_in (by omega) (by omega)]
   rfl
 unfold slices_Equal_string_string.f
 have := go l.length 0 (by omega) (by omega)
 rw [show ((0 : Nat) : Int) = 0 from rfl] at this
 simp only [decide_true, Bool.not_true, cb_f, this, ob_s, caseS_r]
theorem index_in (l : List ByteArray) (s : ByteArray) (h : l.length ≤ 1000000000000000) : ∀ (n k : Nat), l.length - k = n → k ≤ l.length →
  ∃ r, slices_Index_string_string.l0 l s (l.length : Int) (k : Int) = some r ∧ ((s ∈ l.drop k ∧ ∃ j : Int, r = .inl j ∧ 0 ≤ j) ∨ (s ∉ l.drop k ∧ r = .inr ())) := by
 intro n
 induction n with
 | zero =>
  intro k hn hk
  obtain rfl : k = l.length := by omega
  refine ⟨.inr (), loopX_done ?_, .inr ⟨by rw [List.drop_length]; simp, rfl⟩⟩
  simp only [slices_Index_string_string.s0, cb_dec]
  rw [if_neg (by omega)]
 | succ n ih =>
  intro k hn hk
  have hlt : k < l.length := by omega
  rw [List.drop_eq_getElem_cons hlt]
  by_cases hs : s = l[k]
  ·refine ⟨.inl (k : Int), loopX_done ?_, .inl ⟨by rw [hs]; exact List.mem_cons_self .., k, rfl, by omega⟩⟩
   simp only [slices_Index_string_string.s0, cb_dec, rd_lt hlt]
   rw [if_pos (by omega), ck_pos (by omega), if_pos hs]
  ·obtain ⟨r, h1, h2⟩ := ih (k + 1) (by omega) (by omega)
   refine ⟨r, (loopX_next ?_).trans h1, ?_⟩
   ·simp only [slices_Index_string_string.s0, cb_dec, rd_lt hlt]
    rw [if_pos (by omega), ck_pos (by omega), if_neg hs, ck_in (by omega) (by omega)]
    rfl
   ·rcases h2 with ⟨h2, h3⟩ | ⟨h2, h3⟩
    ·exact .inl ⟨List.mem_cons_of_mem _ h2, h3⟩
    ·refine .inr ⟨fun h => ?_, h3⟩
     rcases List.mem_cons.1 h with h | h
     ·exact hs h
     ·exact h2 h
open Classical in
theorem contains_eq (l : List ByteArray) (s : ByteArray) (h : l.length ≤ 1000000000000000) : slices_Contains_string_string.f l s = some (decide (s ∈ l)) := by
 obtain ⟨r, h1, h2⟩ := index_in l s h l.length 0 (by omega) (by omega)
 rw [show ((0 : Nat) : Int) = 0 from rfl] at h1
 rw [List.drop_zero] at h2
 unfold slices_Contains_string_string.f slices_Index_string_string.f
 simp only [h1, ob_s]
 rcases h2 with ⟨h2, j, rfl, h3⟩ | ⟨h2, rfl⟩
 ·simp only [caseS_l, ob_s, h2, h3, decide_true]
 ·simp only [caseS_r, ob_s, h2, decide_false]; rfl
def addM (a : List ByteArray) (o : List (ByteArray × Bool)) : List (ByteArray × Bool) := a.foldl (fun m y => mset y true m) o
theorem mget_set (s y : ByteArray) : ∀ m : List (ByteArray × Bool), mget s (mset y true m) = if s = y then some true else mget s m
 | [] => by
  by_cases h : s = y
  ·rw [if_pos h]; simp [mset, mget, h]
  ·rw [if_neg h]; simp [mset, mget, h]
 | p :: m => by
  have ih := mget_set s y m
  by_cases h1 : y = p.1
  ·have e : mset y true (p :: m) = (y, true) :: m := by simp [mset, h1]
   rw [e]
   by_cases h : s = y
   ·rw [if_pos h]; simp [mget, h]
   ·have h2 : ¬ s = p.1 := by rw [← h1]; exact h
    rw [if_neg h]; simp [mget, h, h2]
  ·have e : mset y true (p :: m) = p :: mset y true m := by simp [mset, h1]
   rw [e]
   by_cases h2 : s = p.1
   ·have h : ¬ s = y := fun h => h1 (by rw [← h]; exact h2)
    rw [if_neg h]; simp [mget, h2]
   ·have e1 : mget s (p :: mset y true m) = mget s (mset y true m) := by simp [mget, h2]
    have e2 : mget s (p :: m) = mget s m := by simp [mget, h2]
    rw [e1, e2, ih]
open Classical in
theorem addM_get (s : ByteArray) : ∀ (a : List ByteArray) (o : List (ByteArray × Bool)), Option.getD (mget s (addM a o)) false = (decide (s ∈ a) || Option.getD (mget s o) false)
 | [], o => by simp [addM]
 | y :: a, o => by
  have ih := addM_get s a (mset y true o)
  have e : addM (y :: a) o = addM a (mset y true o) := rfl
  rw [e, ih, mget_set]
  by_cases h : s = y
  ·subst h; simp
  ·rw [if_neg h]; simp [h]
theorem haveLoop (a : List ByteArray) (ha : a.length ≤ 4000) : ∀ (n k : Nat) (o : List (ByteArray × Bool)), a.length - k = n → k ≤ a.length →
  (∃ t, wire_Wanted.l0 a a (a.length : Int) (k : Int) o = some (.inl t) ∧ ref8_Wanted.l0 a a (a.length : Int) (k : Int) = some (.inl t) ∧ t.1 = []) ∨
  (wire_Wanted.l0 a a (a.length : Int) (k : Int) o = some (.inr (addM (a.drop k) o)) ∧ ref8_Wanted.l0 a a (a.length : Int) (k : Int) = some (.inr ())) := by
 intro n
 induction n with
 | zero =>
  intro k o hn hk
  obtain rfl : k = a.length := by omega
  rw [List.drop_length]
  refine .inr ⟨loopX_done ?_, loopX_done ?_⟩
  ·simp only [wire_Wanted.s0, cb_dec]; rw [if_neg (by omega)]; rfl
  ·simp only [ref8_Wanted.s0, cb_dec]; rw [if_neg (by omega)]
 | succ n ih =>
  intro k o hn hk
  have hlt : k < a.length := by omega
  obtain ⟨b, hb⟩ := isDigest_eq a[k]
  have hb8 : ref8_isDigest.f a[k] = some b := hb
  have hx1 : InR ((k : Int) + 1) := by unfold InR; omega
  have hx2 : InR ((k : Int) - 1) := by unfold InR; omega
  have bad : ∀ c : Int, wire_Wanted.s0 a a (a.length : Int) (k : Int) o = some (.inr (.inl ([], 0, c))) → ref8_Wanted.s0 a a (a.length : Int) (k : Int) = some (.inr (.inl ([], 0, c))) → _ := fun c h1 h2 =>
   (.inl ⟨([], 0, c), loopX_done h1, loopX_done h2, rfl⟩ : (∃ t, wire_Wanted.l0 a a (a.length : Int) (k : Int) o = some (.inl t) ∧ ref8_Wanted.l0 a a (a.length : Int) (k : Int) = some (.inl t) ∧ t.1 = []) ∨ (wire_Wanted.l0 a a (a.length : Int) (k : Int) o = some (.inr (addM (a.drop k) o)) ∧ ref8_Wanted.l0 a a (a.length : Int) (k : Int) = some (.inr ())))
  have go : wire_Wanted.s0 a a (a.length : Int) (k : Int) o = some (.inl ((k : Int) + 1, mset a[k] true o)) → ref8_Wanted.s0 a a (a.length : Int) (k : Int) = some (.inl ((k : Int) + 1)) → _ := fun h1 h2 =>
   (by
    rw [List.drop_eq_getElem_cons hlt]
    rcases ih (k + 1) (mset a[k] true o) (by omega) (by omega) with ⟨t, h3, h4, h5⟩ | ⟨h3, h4⟩
    ·exact .inl ⟨t, (loopX_next h1).trans h3, (loopX_next h2).trans h4, h5⟩
    ·exact .inr ⟨(loopX_next h1).trans h3, (loopX_next h2).trans h4⟩ : (∃ t, wire_Wanted.l0 a a (a.length : Int) (k : Int) o = some (.inl t) ∧ ref8_Wanted.l0 a a (a.length : Int) (k : Int) = some (.inl t) ∧ t.1 = []) ∨ (wire_Wanted.l0 a a (a.length : Int) (k : Int) o = some (.inr (addM (a.drop k) o)) ∧ ref8_Wanted.l0 a a (a.length : Int) (k : Int) = some (.inr ())))
  by_cases hb1 : b = true
  ·by_cases hk0 : (0 : Int) < (k : Int)
   ·obtain ⟨k', rfl⟩ : ∃ k', k = k' + 1 := ⟨k - 1, by omega⟩
    have ek : (((k' + 1 : Nat) : Int) - 1) = (k' : Int) := by omega
    have hlt' : k' < a.length := by omega
    by_cases hs : (bless a[k' + 1] a[k'] || decide (a[k' + 1] = a[k'])) = true
    ·refine bad 8 ?_ ?_
     ·simp only [wire_Wanted.s0, cb_dec, cb_not, rd_lt hlt, hb, ob_s, hb1, cb_t]
      rw [if_pos (by omega), ck_pos (by omega), if_pos hk0, ck_pos hx2]
      simp only [ek, rd_lt hlt', hs, cb_t]
      rw [ck_pos (by omega)]
     ·simp only [ref8_Wanted.s0, cb_dec, cb_not, rd_lt hlt, hb8, ob_s, hb1, cb_t]
      rw [if_pos (by omega), ck_pos (by omega), if_pos hk0, ck_pos hx2]
      simp only [ek, rd_lt hlt', hs, cb_t]
      rw [ck_pos (by omega)]
    ·have hs' : (bless a[k' + 1] a[k'] || decide (a[k' + 1] = a[k'])) = false := by simpa using hs
     refine go ?_ ?_
     ·simp only [wire_Wanted.s0, cb_dec, cb_not, rd_lt hlt, hb, ob_s, hb1, cb_t]
      rw [if_pos (by omega), ck_pos (by omega), if_pos hk0, ck_pos hx2]
      simp only [ek, rd_lt hlt', hs', cb_f]
      rw [ck_pos (by omega), ck_pos hx1]
     ·simp only [ref8_Wanted.s0, cb_dec, cb_not, rd_lt hlt, hb8, ob_s, hb1, cb_t]
      rw [if_pos (by omega), ck_pos (by omega), if_pos hk0, ck_pos hx2]
      simp only [ek, rd_lt hlt', hs', cb_f]
      rw [ck_pos (by omega), ck_pos hx1]
   ·refine go ?_ ?_
    ·simp only [wire_Wanted.s0, cb_dec, cb_not, rd_lt hlt, hb, ob_s, hb1, cb_t]
     rw [if_pos (by omega), ck_pos (by omega), if_neg hk0, ck_pos hx1]
    ·simp only [ref8_Wanted.s0, cb_dec, cb_not, rd_lt hlt, hb8, ob_s, hb1, cb_t]
     rw [if_pos (by omega), ck_pos (by omega), if_neg hk0, ck_pos hx1]
  ·have hb' : b = false := by simpa using hb1
   refine bad 3 ?_ ?_
   ·simp only [wire_Wanted.s0, cb_dec, cb_not, rd_lt hlt, hb, ob_s, hb', cb_f]
    rw [if_pos (by omega), ck_pos (by omega)]
   ·simp only [ref8_Wanted.s0, cb_dec, cb_not, rd_lt hlt, hb8, ob_s, hb', cb_f]
    rw [if_pos (by omega), ck_pos (by omega)]
open Classical in
noncomputable def wantS (a : List ByteArray) : List Sz → Int → List Sz → Int × List Sz
 | [], s, o => (s, o)
 | x :: l, s, o => if x.1 ∈ a then wantS a l s o else wantS a l (s + x.2) (o ++ [x])
theorem wantLoop (a : List ByteArray) (ha : a.length ≤ 4000) (m : List (ByteArray × Bool)) (hm : ∀ s, Option.getD (mget s m) false = @decide (s ∈ a) (Classical.propDecidable _)) (l : List Sz) (hl : okS l) : ∀ (n k : Nat) (s : Int) (o : List Sz), l.length - k = n → k ≤ l.length → 0 ≤ s ∧ s ≤ 2000000 * k → o.length ≤ k →
  wire_Wanted.l1 l (l.length : Int) s (k : Int) m o = some ((wantS a (l.drop k) s o).1, m, (wantS a (l.drop k) s o).2) ∧ ref8_Wanted.l1 a l (l.length : Int) s (k : Int) o = some (wantS a (l.drop k) s o) := by
 have h4 := hl.1
 intro n
 induction n with
 | zero =>
  intro k s o hn hk hs ho
  obtain rfl : k = l.length := by omega
  rw [List.drop_length]
  refine ⟨loopX_done ?_, loopX_done ?_⟩
  ·simp only [wire_Wanted.s1, cb_dec]; rw [if_neg (by omega)]; rfl
  ·simp only [ref8_Wanted.s1, cb_dec]; rw [if_neg (by omega)]; rfl
 | succ n ih =>
  intro k s o hn hk hs ho
  have hlt : k < l.length := by omega
  have hx := hl.2 l[k] (List.getElem_mem hlt)
  have hx1 : InR ((k : Int) + 1) := by unfold InR; omega
  have hx2 : InR (s + l[k].2) := by unfold InR; omega
  have hx3 : (o.length + [l[k]].length) * 24 ≤ 140737488355328 := by simp only [List.length_cons, List.length_nil]; omega
  rw [List.drop_eq_getElem_cons hlt]
  by_cases h : l[k].1 ∈ a
  ·obtain ⟨h1, h2⟩ := ih (k + 1) s o (by omega) (by omega) (by omega) (by omega)
   have e : wantS a (l[k] :: l.drop (k + 1)) s o = wantS a (l.drop (k + 1)) s o := by simp only [wantS]; rw [if_pos h]
   rw [e]
   refine ⟨(loopX_next ?_).trans h1, (loopX_next ?_).trans h2⟩
   ·simp only [wire_Wanted.s1, cb_dec, cb_not, rd_lt hlt, hm, h, decide_true, cb_t]
    rw [if_pos (by omega), ck_pos (by omega), ck_pos hx1]
    rfl
   ·simp only [ref8_Wanted.s1, cb_dec, cb_not, rd_lt hlt, contains_eq a l[k].1 (by omega), ob_s, h, decide_true, cb_t]
    rw [if_pos (by omega), ck_pos (by omega), ck_pos hx1]
    rfl
  ·obtain ⟨h1, h2⟩ := ih (k + 1) (s + l[k].2) (o ++ [l[k]]) (by omega) (by omega) (by omega) (by simp; omega)
   have e : wantS a (l[k] :: l.drop (k + 1)) s o = wantS a (l.drop (k + 1)) (s + l[k].2) (o ++ [l[k]]) := by simp only [wantS]; rw [if_neg h]
   rw [e]
   refine ⟨(loopX_next ?_).trans h1, (loopX_next ?_).trans h2⟩
   ·simp only [wire_Wanted.s1, cb_dec, cb_not, rd_lt hlt, hm, h, decide_false, cb_f, ck_pos hx1, ck_pos hx2, ck_pos hx3, both_same]
    rw [if_pos (by omega), ck_pos (by omega)]
    rfl
   ·simp only [ref8_Wanted.s1, cb_dec, cb_not, rd_lt hlt, contains_eq a l[k].1 (by omega), ob_s, h, decide_false, cb_f, ck_pos hx1, ck_pos hx2, ck_pos hx3, both_same]
    rw [if_pos (by omega), ck_pos (by omega)]
    rfl
theorem wantS_len (a : List ByteArray) : ∀ (l : List Sz) (s : Int) (o : List Sz), (wantS a l s o).2.length ≤ o.length + l.length
 | [], s, o => by simp [wantS]
 | x :: l, s, o => by
  simp only [wantS]
  by_cases h : x.1 ∈ a
  ·rw [if_pos h]; have := wantS_len a l s o; simp only [List.length_cons]; omega
  ·rw [if_neg h]; have := wantS_len a l (s + x.2) (o ++ [x]); simp only [List.length_cons, List.length_append, List.length_nil] at this ⊢; omega
theorem wanted_eq (l : List Sz) (a : List ByteArray) : ∃ r, wire_Wanted.f l a = some r ∧ ref8_Wanted.f l a = some r ∧ r.1.length ≤ 4000 := by
 obtain ⟨c, hc, h0⟩ := sizes_eq l
 unfold wire_Wanted.f ref8_Wanted.f
 rw [sizes8_eq, hc, ob_s, ob_s]
 simp only [cb_not, cb_dec]
 by_cases h1 : c = 0
 ·simp only [if_pos h1]
  by_cases h2 : (4000 : Int) < (a.length : Int)
  ·simp only [if_pos h2]; exact ⟨_, rfl, rfl, by simp⟩
  ·simp only [if_neg h2]
   have h3 := haveLoop a (by omega) a.length 0 [] (by omega) (by omega)
   rw [show ((0 : Nat) : Int) = 0 from rfl] at h3
   rcases h3 with ⟨t, h4, h5, h6⟩ | ⟨h4, h5⟩
   ·rw [h4, h5]
    simp only [ob_s, caseS_l]
    exact ⟨_, rfl, rfl, by rw [h6]; simp⟩
   ·rw [h4, h5, List.drop_zero]
    simp only [ob_s, caseS_r]
    have hm : ∀ s, Option.getD (mget s (addM a [])) false = @decide (s ∈ a) (Classical.propDecidable _) := fun s => by
     rw [addM_get]; simp [mget]
    obtain ⟨h6, h7⟩ := wantLoop a (by omega) (addM a []) hm l (h0 h1) l.length 0 0 [] (by omega) (by omega) (by omega) (by simp)
    rw [show ((0 : Nat) : Int) = 0 from rfl, List.drop_zero] at h6 h7
    rw [h6, h7]
    simp only [ob_s]
    refine ⟨_, rfl, rfl, ?_⟩
    have := wantS_len a l 0 []
    have h8 := (h0 h1).1
    simp only [List.length_nil] at this
    show (wantS a l 0 []).2.length ≤ 4000
    omega
 ·simp only [if_neg h1]; exact ⟨_, rfl, rfl, by simp⟩
theorem rowsLoop (p : List (List ByteArray)) (hp : p.length ≤ 4000) (hr : ∀ r ∈ p, r.length ≤ 1000000000000000) : ∀ (n k : Nat), p.length - k = n → k ≤ p.length → law8_WireWantedMatchesSpec.l0 p p (p.length : Int) (k : Int) = some (.inr ()) := by
 intro n
 induction n with
 | zero =>
  intro k hn hk
  refine loopX_done ?_
  simp only [law8_WireWantedMatchesSpec.s0, cb_dec]
  rw [if_neg (by omega)]
 | succ n ih =>
  intro k hn hk
  have hlt : k < p.length := by omega
  refine (loopX_next ?_).trans (ih (k + 1) (by omega) (by omega))
  simp only [law8_WireWantedMatchesSpec.s0, cb_dec, cb_not, rd_lt hlt, equalS p[k] (hr _ (List.getElem_mem hlt)), ob_s, cb_t]
  rw [if_pos (by omega), ck_pos (by omega), ck_pos (by omega), ck_in (by omega) (by omega)]
  rfl
theorem runB_len {most many : Int} : ∀ (l : List Sz) (s : Int) (o : List (List ByteArray)) (k : Nat), o.length ≤ k → (∀ r ∈ o, r.length ≤ k) → (runB most many l s o).length ≤ k + l.length ∧ ∀ r ∈ runB most many l s o, r.length ≤ k + l.length
 | [], s, o, k, h1, h2 => ⟨by simpa [runB] using h1, by simpa [runB] using h2⟩
 | x :: l, s, o, k, h1, h2 => by
  have hlast : (lastR o).length ≤ k := by
   unfold lastR
   by_cases h : o.length - 1 < o.length
   ·rw [List.getD, List.getElem?_eq_getElem h]; exact h2 _ (List.getElem_mem h)
   ·rw [List.getD, List.getElem?_eq_none (by omega)]; simp
  have h3 : (stepB most many s o x).2.length ≤ k + 1 ∧ ∀ r ∈ (stepB most many s o x).2, r.length ≤ k + 1 := by
   unfold stepB
   split
   ·refine ⟨by simp; omega, fun r hr => ?_⟩
    rcases List.mem_append.1 hr with hr | hr
    ·have := h2 r hr; omega
    ·obtain rfl := List.mem_singleton.1 hr; simp
   ·refine ⟨by simp; omega, fun r hr => ?_⟩
    rcases List.mem_or_eq_of_mem_set hr with hr | rfl
    ·have := h2 r hr; omega
    ·simp; omega
  have h4 := runB_len (most := most) (many := many) l (stepB most many s o x).1 (stepB most many s o x).2 (k + 1) h3.1 h3.2
  simp only [runB, List.length_cons]
  exact ⟨by omega, fun r hr => by have := h4.2 r hr; omega⟩
theorem law_WM (l : List Sz) (a : List ByteArray) (most many : Int) (h1 : l.length * 24 ≤ 140737488355328) (h2 : a.length * 16 ≤ 140737488355328) : law8_WireWantedMatchesSpec.f l a most many = some true := by
 obtain ⟨r, h3, h4, h5⟩ := wanted_eq l a
 obtain ⟨c, hc, h0⟩ := sizes_eq l
 obtain ⟨h6, h7⟩ := batches_eq most many hc h0
 have hp : (batchesR c l most many).1.length ≤ 4000 ∧ ∀ r ∈ (batchesR c l most many).1, r.length ≤ 1000000000000000 := by
  unfold batchesR
  split
  ·simp
  ·split
   ·simp
   ·split
    ·simp
    ·rename_i g1 _ _
     have hl := (h0 (Classical.not_not.1 g1)).1
     obtain ⟨g3, g4⟩ := runB_len (most := most) (many := many) l 0 [] 0 (by simp) (by simp)
     exact ⟨by show (runB most many l 0 []).length ≤ 4000; omega, fun r hr => by have := g4 r hr; omega⟩
 have h8 := rowsLoop _ hp.1 hp.2 _ 0 rfl (by omega)
 rw [show ((0 : Nat) : Int) = 0 from rfl] at h8
 unfold law8_WireWantedMatchesSpec.f
 rw [cloneSz h1, ob_s, cloneS h2, ob_s, h3, ob_s, h4, ob_s, hc, ob_s, sizes8_eq, hc, ob_s]
 simp only [decide_true, Bool.not_true, cb_f, cb_t, equalSz r.1 (by omega), ob_s, h6, h7, h8, caseS_r, equalSz l (by omega), equalS a (by omega), awake_eq]
end Go.Proofs.YtpeiomhgaembaaaDoor
set_option linter.unusedVariables false
set_option linter.unusedSimpArgs false
set_option maxRecDepth 100000
set_option maxHeartbeats 4000000
namespace Go.Proofs.YtpeiomhgaembaaaDoor
open Go Go.RowKit Go.ChangeShapes Go.WideShapes Go.ChangeAt Go.Proofs.YtpeiomhgaembaaaDoor.Eng
theorem law_WM' (x : List Sz × (List ByteArray × (Int × Int))) (hx : InA T 6 [22, 28, 3, 3] [.slice (.pair .str (.int .i64)), .slice .str, .int .i64, .int .i64] x) : law8_WireWantedMatchesSpec.f x.1 x.2.1 x.2.2.1 x.2.2.2 = some true := by
 have hr : reachBytes ≤ 140737488355328 := by decide +kernel
 have h1 : List.length x.1 * 24 ≤ reachBytes := hx.1.1
 have h2 : List.length x.2.1 * 16 ≤ reachBytes := hx.2.1.1
 exact law_WM x.1 x.2.1 x.2.2.1 x.2.2.2 (by omega) (by omega)
theorem own : ownKnob Tryd.prog.godebug = none := by kernel_rfl
theorem laidOut : laidOutB Tryd.prog = true := by kernel_rfl
theorem wireWantedMatchesSpec_av (xs : List AV) (h : ShapeA T 6 [22,28,3,3] xs) : FPure Tryd.prog 5 xs (.v (.bool true)) :=
 law_typed (T := T) (m := 6) (ts := [22,28,3,3]) law8_WireWantedMatchesSpec.ok (by kernel_rfl) (fun x hx => law_WM' x hx) xs h
theorem wireWantedMatchesSpec_lifted (os : Os) (started : os.Started) (H : Type) (enc : TypeId × Value → H) :
  ReturnsInHanded {} Tryd.checked os 5 .any (fun w args => (Rows.wireWantedMatchesSpecSpec.pre enc Tryd.prog Tryd.f5 Rows.wireWantedMatchesSpecRow.domain false w args ∧ laidMetH Tryd.prog Rows.wireWantedMatchesSpecRow.laid w) ∧ sizedMet enc Tryd.prog Tryd.f5 (OpenSpec.ofChange Rows.wireWantedMatchesSpecSpec) false w args)
   (Rows.wireWantedMatchesSpecSpec.post enc Tryd.prog Tryd.f5 false true false false) := by
 refine returnsInHanded_of_change_and (C := Tryd.checked) (X := fun w _ => laidMetH Tryd.prog Rows.wireWantedMatchesSpecRow.laid w) (fun _ _ _ hh h => h.of_heap hh) own started (by kernel_rfl) Tryd.func5
  (ChangeSpec.witness_shaped (enc := enc) (C := Tryd.checked) (os := os) (X := fun w _ => laidMetH Tryd.prog Rows.wireWantedMatchesSpecRow.laid w) false (World.laidAll Tryd.prog os Rows.wireWantedMatchesSpecRow.laid) #[.slice none 0 0, .slice none 0 0, .int .i64 0, .int .i64 0] 8 (World.laidAll_os _ _ _)
   (World.shaped_of_ZipB (by kernel_rfl) (by kernel_rfl)) (by kernel_rfl) (by kernel_rfl) (by kernel_rfl)
   (by rw [MakeChecks.laidMetH_plain _ _ _ (by kernel_rfl)]; exact laidMet_laidAll _ (by kernel_rfl) (by kernel_rfl))) ?_
 intro W base args ds gs before hval0 hW hcnd hsz0 hL _
 have hW' := hW
 obtain ⟨p, q, hA0, hV, rfl, hfz, hnd⟩ := hW
 have hsz : (DataW.weightsEach Tryd.prog (Tryd.f5.params.toList ++ Rows.wireWantedMatchesSpecSpec.plain.varTypes Tryd.prog) (ds ++ gs)).all (· ≤ reachBytes) = true := hsz0
 have hA : DataW.TrodAll enc Tryd.prog W 0 (fun _ => true) true [22,28,3,3] args.toList ds p := hA0
 obtain ⟨rfl, rfl⟩ := trodVars_none hV
 have hlaw := law_calls (r := .any) (b0 := base) tabOK laidOut wireWantedMatchesSpec_av (by decide +kernel) (by kernel_rfl) hA (fun j t v h1 h2 => hval0 j t v (by simpa using h1) (by simpa using h2)) (by rw [List.append_nil] at hsz; exact hsz)
 simp only [Array.toArray_toList] at hlaw
 refine hlaw.mono fun e W' ⟨he, bel, hback⟩ => ?_
 subst he
 obtain ⟨d1, d2, d3, d4, hds⟩ : ∃ d1 d2 d3 d4, ds = [d1, d2, d3, d4] := by
  obtain ⟨_, _, d1, _, _, _, _, rfl, _, _, h⟩ := trodAll_cons hA
  obtain ⟨_, _, d2, _, _, _, _, rfl, _, _, h⟩ := trodAll_cons h
  obtain ⟨_, _, d3, _, _, _, _, rfl, _, _, h⟩ := trodAll_cons h
  obtain ⟨_, _, d4, _, _, _, _, rfl, _, _, h⟩ := trodAll_cons h
  obtain ⟨_, rfl, _⟩ := trodAll_nil h
  exact ⟨d1, d2, d3, d4, rfl⟩
 subst hds
 exact ⟨_, rfl, _, _, _, [], _, [], hW', trodAll_mk1 (shut_bool Tryd.underlying4 _), hback, rfl, bel.frame _, fun h => by cases h⟩
theorem wireWantedMatchesSpec_facts : joinedFacts Tryd.prog 5 Tryd.f5 Rows.wireWantedMatchesSpecSpec Rows.wireWantedMatchesSpecRow = true := by kernel_rfl
theorem wireWantedMatchesSpec_over : Rows.wireWantedMatchesSpecRow.holds Tryd.pinned (OpenSpec.ofChange Rows.wireWantedMatchesSpecSpec) :=
 OpenClaim.holds_of_wide 5 Tryd.f5 rfl rfl rfl rfl rfl rfl rfl ⟨rfl, rfl, rfl, rfl, rfl⟩ rfl rfl rfl rfl rfl (by kernel_rfl) Tryd.func5 wireWantedMatchesSpec_facts
  (of_decide_eq_true (by kernel_rfl)) (by unfold Func.isWrapper; first | (rw [if_pos (by decide +kernel)]; kernel_rfl) | (rw [if_neg (by decide +kernel)]; exact ⟨rfl, rfl⟩))
  (fun os started H enc _ => wireWantedMatchesSpec_lifted os started H enc)
theorem wireWantedMatchesSpec_wf : Rows.wireWantedMatchesSpecRow.wfByText (OpenSpec.ofChange Rows.wireWantedMatchesSpecSpec) = true := by kernel_rfl
theorem wireWantedMatchesSpec_main : Tryd.pinned.checked.prog.mainIs = some (true, "e39929bad2eab1783ee56fd07625803768cd0b14b7dff25f9ddf956a9ecc1117".toList) := by kernel_rfl
theorem wireWantedMatchesSpec_looks : false = Tryd.pinned.checked.prog.looks [] := by kernel_rfl
theorem wireWantedMatchesSpec_goes : false = Rows.wireWantedMatchesSpecRow.goesBy Tryd.pinned.checked.prog := by kernel_rfl
theorem wireWantedMatchesSpec_named : Tryd.prog.funcNamed "smithyard/smithyardlaw8.WireWantedMatchesSpec" = some 5 := by kernel_rfl
theorem wireWantedMatchesSpec_noStand : ([22,28,3,3].all fun u => !Tryd.prog.wantsStandIn u) = true := by kernel_rfl
theorem wireWantedMatchesSpec_holds : Rows.WireWantedMatchesSpecCardSaid :=
 Claim7.holds_tied_plain_at .later [] [.data, .pinned] true (true, "e39929bad2eab1783ee56fd07625803768cd0b14b7dff25f9ddf956a9ecc1117") false wireWantedMatchesSpec_over (fun _ h => by cases h) wireWantedMatchesSpec_wf (fun _ h => by cases h) wireWantedMatchesSpec_row_tie rfl ⟨rfl, rfl⟩ wireWantedMatchesSpec_main rfl
  (fun f fn hf hfn => by
   obtain rfl : f = 5 := Option.some.inj (wireWantedMatchesSpec_named.symm.trans hf) |>.symm
   obtain rfl : fn = Tryd.f5 := (Option.some.inj (Tryd.func5.symm.trans hfn)).symm
   exact ⟨wireWantedMatchesSpec_looks, fun j t ht => by
    rw [Tryd.params5] at ht
    have hm : t ∈ [22,28,3,3] := by simpa using Array.mem_of_getElem? ht
    exact (show Tryd.prog.wantsStandIn t = false by simpa using List.all_eq_true.1 wireWantedMatchesSpec_noStand t hm)⟩)
  wireWantedMatchesSpec_goes
end Go.Proofs.YtpeiomhgaembaaaDoor
