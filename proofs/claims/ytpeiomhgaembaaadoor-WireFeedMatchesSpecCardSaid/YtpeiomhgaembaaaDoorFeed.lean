/-
  The law WireFeedMatchesSpec hands back true for every argument, and leaves its arguments as they were; its card is tied to the program. No condition.
-/
import Derived.Test.YtpeiomhgaembaaaDoorFun
import Derived.Test.YtpeiomhgaembaaaDoorTypB
import Derived.Test.YtpeiomhgaembaaaDoorRows
import Derived.Test.YtpeiomhgaembaaaDoorCards
import Derived.Test.YtpeiomhgaembaaaDoorTie
import Derived.ProofKit
import Derived.LaidMore
import Derived.Lay
import Derived.OpenShut
import Derived.SevenTiedAt
import Derived.Stop.Joined
set_option linter.unusedVariables false
set_option linter.unusedSimpArgs false
namespace Go.Proofs.YtpeiomhgaembaaaDoor
open Go Go.Proofs.YtpeiomhgaembaaaDoor.Eng
theorem ck_dec {β : Type} {c : Prop} [h : Decidable c] {a : Option β} : ck c a = if c then a else none := by
 by_cases hc : c
 ·rw [ck_pos hc, if_pos hc]
 ·rw [if_neg hc]; unfold ck; rw [if_neg hc]
instance inR_dec (x : Int) : Decidable (InR x) := by unfold InR; infer_instance
theorem within_eq (a b c : Int) : wire_within.f a b c = some (decide (b ≤ a ∧ a ≤ c)) := by
 unfold wire_within.f
 rw [cb_dec]
 by_cases h : b ≤ a <;> simp [h]
theorem within8_eq (a b c : Int) : ref8_within.f a b c = some (decide (b ≤ a ∧ a ≤ c)) := by
 unfold ref8_within.f
 rw [cb_dec]
 by_cases h : b ≤ a <;> simp [h]
theorem starts_awake : wire_Starts.f ((2 : Int), (10 : Int)) [((0 : Int), (8 : Int)), ((0 : Int), (8 : Int))] = some ([0, 3], 0) := by
 have q : wire_CheckQuota.f ((2 : Int), (10 : Int)) = some 0 := by
  simp only [wire_CheckQuota.f, within_eq, ob_s]; rfl
 have l0 : wire_Starts.l0 [((0 : Int), (8 : Int)), ((0 : Int), (8 : Int))] ((2 : Int), (10 : Int)) [((0 : Int), (8 : Int)), ((0 : Int), (8 : Int))] 2 0 = some (.inr ()) := by
  refine (loopX_next (x' := 1) ?_).trans ((loopX_next (x' := 2) ?_).trans (loopX_done ?_))
  ·simp only [wire_Starts.s0, ck_dec, within_eq, ob_s]; rfl
  ·simp only [wire_Starts.s0, ck_dec, within_eq, ob_s]; rfl
  ·simp only [wire_Starts.s0, ck_dec, within_eq, ob_s]; rfl
 have l1 : wire_Starts.l1 ((2 : Int), (10 : Int)) [((0 : Int), (8 : Int)), ((0 : Int), (8 : Int))] 2 0 10 0 [] = some (3, [0, 3]) := by
  refine (loopX_next (x' := (0, 2, 1, [0])) ?_).trans ((loopX_next (x' := (3, 0, 2, [0, 3])) ?_).trans (loopX_done ?_))
  ·simp only [wire_Starts.s1, ck_dec]; rfl
  ·simp only [wire_Starts.s1, ck_dec]; rfl
  ·simp only [wire_Starts.s1, ck_dec]; rfl
 unfold wire_Starts.f
 rw [q, ob_s]
 show ob (wire_Starts.l0 [((0 : Int), (8 : Int)), ((0 : Int), (8 : Int))] ((2 : Int), (10 : Int)) [((0 : Int), (8 : Int)), ((0 : Int), (8 : Int))] 2 0) _ = _
 rw [l0, ob_s, caseS_r]
 show ob (wire_Starts.l1 ((2 : Int), (10 : Int)) [((0 : Int), (8 : Int)), ((0 : Int), (8 : Int))] 2 0 10 0 []) _ = _
 rw [l1, ob_s]
 rfl
theorem awake_eq : law8_awake.f = some true := by
 unfold law8_awake.f
 rw [starts_awake, ob_s]
 simp only [ck_dec]
 rfl
theorem cloneB {l : List UInt8} (h : l.length ≤ 140737488355328) : slices_Clone_byte_byte.f l = some l := by
 unfold slices_Clone_byte_byte.f
 by_cases he : l = []
 ·subst he
  rw [ck_pos (by simp)]
  exact nq_same
 ·unfold nq
  rw [if_pos he, ck_pos (by simp; omega)]
  rfl
theorem equalB2 (a b : List UInt8) (ha : a.length ≤ 1000000000000000) : slices_Equal_byte_byte.f a b = some (decide (a = b)) := by
 have go : ∀ (n k : Nat), a.length = b.length → a.length - k = n → k ≤ a.length → slices_Equal_byte_byte.l0 a b (a.length : Int) (k : Int) = some (if a.drop k = b.drop k then .inr () else .inl false) := by
  intro n
  induction n with
  | zero =>
   intro k hab hn hk
   obtain rfl : k = a.length := by omega
   refine loopX_done ?_
   simp only [slices_Equal_byte_byte.s0, cb_dec]
   rw [if_neg (by omega), List.drop_length, hab, List.drop_length, if_pos rfl]
  | succ n ih =>
   intro k hab hn hk
   have hlt : k < a.length := by omega
   have hlt2 : k < b.length := by omega
   have ihk := ih (k + 1) hab (by omega) (by omega)
   rw [List.drop_eq_getElem_cons hlt, List.drop_eq_getElem_cons hlt2]
   by_cases he : a[k] = b[k]
   ·refine (loopX_next (x' := ((k + 1 : Nat) : Int)) ?_).trans (ihk.trans ?_)
    ·simp only [slices_Equal_byte_byte.s0, cb_dec, cb_not, rd_lt hlt, rd_lt hlt2]
     rw [if_pos (by omega), ck_pos (by omega), ck_pos (by omega), if_pos (by rw [he]), ck_in (by omega) (by omega)]
     rfl
    ·congr 1; simp only [List.cons.injEq, he, true_and]
   ·refine loopX_done ?_
    simp only [slices_Equal_byte_byte.s0, cb_dec, cb_not, rd_lt hlt, rd_lt hlt2]
    have hne : ¬ (((UInt8.toNat a[k] : Nat) : Int) = ((UInt8.toNat b[k] : Nat) : Int)) := fun h => he (UInt8.toNat_inj.1 (by omega))
    rw [if_pos (by omega), ck_pos (by omega), ck_pos (by omega), if_neg hne, if_neg (fun h => he (List.cons.inj h).1)]
 unfold slices_Equal_byte_byte.f
 simp only [cb_not, cb_dec]
 by_cases hl : a.length = b.length
 ·rw [if_pos (by omega), show (0 : Int) = ((0 : Nat) : Int) from rfl, go a.length 0 hl (by omega) (by omega), ob_s]
  simp only [List.drop_zero]
  by_cases h : a = b
  ·rw [if_pos h, caseS_r]; simp [h]
  ·rw [if_neg h, caseS_l]; simp [h]
 ·rw [if_neg (by omega)]
  have : a ≠ b := fun h => hl (by rw [h])
  simp [this]
theorem equalB {l : List UInt8} (h : l.length ≤ 1000000000000000) : slices_Equal_byte_byte.f l l = some true := by rw [equalB2 l l h]; simp
theorem isDigest_eq (s : ByteArray) : ∃ b : Bool, blob_IsDigest.f s = some b := by
 unfold blob_IsDigest.f
 simp only [cb_dec]
 by_cases h : (s.size : Int) = 16
 ·rw [if_pos h]
  unfold strings_Trim.f
  rw [ck_pos ⟨by omega, by decide, by decide⟩, ob_s]
  exact ⟨_, rfl⟩
 ·rw [if_neg h]; exact ⟨_, rfl⟩
theorem isDigest8_eq : ref8_isDigest.f = blob_IsDigest.f := rfl
end Go.Proofs.YtpeiomhgaembaaaDoor
set_option linter.unusedVariables false
set_option linter.unusedSimpArgs false
namespace Go.Proofs.YtpeiomhgaembaaaDoor
open Go Go.Proofs.YtpeiomhgaembaaaDoor.Eng
abbrev Msg := Int × (ByteArray × (Int × (Int × List UInt8)))
theorem cb_if {β : Type} {b : Bool} {x y : Option β} : cb b x y = if b = true then x else y := by cases b <;> rfl
theorem i64w {r : Int} (h1 : -9223372036854775808 ≤ r) (h2 : r ≤ 9223372036854775807) : IntKind.wrap .i64 r = r := IntWalk.i64_in r ⟨h1, h2⟩
def valN (n : Nat) : List UInt8 → Nat
 | [] => n
 | b :: l => valN (n * 256 + b.toNat) l
theorem or_step (n : Nat) (b : UInt8) (hn : n < 1099511627776) :
  IntKind.wrap .i64 ((BitVec.toNat (BitVec.ofInt (IntKind.bits .i64) (IntKind.wrap .i64 ((n : Int) * 2 ^ min (Int.toNat (8 : Int)) (IntKind.bits .i64))) ||| BitVec.ofInt (IntKind.bits .i64) ((UInt8.toNat b : Nat) : Int)) : Nat) : Int) = ((n * 256 + b.toNat : Nat) : Int) := by
 have hb := b.toNat_lt
 have e0 : IntKind.bits .i64 = 64 := rfl
 have e1 : (2 : Int) ^ min (Int.toNat (8 : Int)) (IntKind.bits .i64) = 256 := by decide
 rw [e1, i64w (r := (n : Int) * 256) (by omega) (by omega), e0]
 have e2 : ((n : Int) * 256) = ((n * 256 : Nat) : Int) := by omega
 rw [e2, BitVec.ofInt_natCast, BitVec.ofInt_natCast, BitVec.toNat_or, BitVec.toNat_ofNat, BitVec.toNat_ofNat, Nat.mod_eq_of_lt (by omega), Nat.mod_eq_of_lt (by omega)]
 have e3 : n * 256 ||| b.toNat = n * 256 + b.toNat := by
  have h := Nat.shiftLeft_add_eq_or_of_lt (b := b.toNat) (i := 8) (by omega) n
  rw [Nat.shiftLeft_eq] at h
  exact h.symm
 rw [e3, i64w (by omega) (by omega)]
theorem valN_lt : ∀ (l : List UInt8) (n : Nat), valN n l < (n + 1) * 256 ^ l.length
 | [], n => by simp [valN]
 | b :: l, n => by
  have hb := b.toNat_lt
  have h := valN_lt l (n * 256 + b.toNat)
  have h2 : (n * 256 + b.toNat + 1) * 256 ^ l.length ≤ ((n + 1) * 256) * 256 ^ l.length := Nat.mul_le_mul_right _ (by omega)
  rw [List.length_cons, Nat.pow_succ, Nat.mul_comm (256 ^ l.length) 256, ← Nat.mul_assoc]
  exact Nat.lt_of_lt_of_le h h2
theorem number_eq (l : List UInt8) (hl : l.length ≤ 4) : wire_number.f l = some ((valN 0 l : Nat) : Int) := by
 have go : ∀ (m k n : Nat), l.length - k = m → k ≤ l.length → n < 256 ^ k → wire_number.l0 l (l.length : Int) (n : Int) (k : Int) = some ((valN n (l.drop k) : Nat) : Int) := by
  intro m
  induction m with
  | zero =>
   intro k n hm hk hn
   obtain rfl : k = l.length := by omega
   refine loopX_done ?_
   simp only [wire_number.s0, cb_dec]
   rw [if_neg (by omega), List.drop_length]
   rfl
  | succ m ih =>
   intro k n hm hk hn
   have hlt : k < l.length := by omega
   have hb := (l[k]).toNat_lt
   have hp : (256 : Nat) ^ k ≤ 256 ^ 3 := Nat.pow_le_pow_right (by omega) (by omega)
   have hn2 : n * 256 + (l[k]).toNat < 256 ^ (k + 1) := by
    rw [Nat.pow_succ]; omega
   rw [List.drop_eq_getElem_cons hlt]
   refine (loopX_next ?_).trans (ih (k + 1) (n * 256 + (l[k]).toNat) (by omega) (by omega) hn2)
   simp only [wire_number.s0, cb_dec, rd_lt hlt]
   rw [if_pos (by omega), ck_pos (by omega), ck_in (by omega) (by omega), or_step n l[k] (by omega)]
   rfl
 unfold wire_number.f
 simp only
 have := go l.length 0 0 (by omega) (by omega) (by simp)
 rw [show ((0 : Nat) : Int) = 0 from rfl] at this
 rw [this, ob_s, List.drop_zero]
theorem valueOf_eq : ref8_valueOf.f = wire_number.f := rfl
def chkF (dg : Bool) (k p s n : Int) : Int :=
 if ¬ (1 ≤ k ∧ k ≤ 6) then 4 else if dg = false then 3 else if ¬ (0 ≤ p ∧ p ≤ 2000000) then 1 else if ¬ (0 ≤ s ∧ s ≤ 2000000) then 1 else if 65536 < n then 2
 else if (p ≠ 0 ∧ ¬ (k = 2 ∨ k = 3)) ∨ (s ≠ 0 ∧ k ≠ 1) ∨ ¬ (k = 2 ↔ 0 < n) then 3 else 0
theorem chk_eq {m : Msg} {n : Int} {dg : Bool} (hd : blob_IsDigest.f m.2.1 = some dg) : wire_checkMessage.f m n = some (chkF dg m.1 m.2.2.1 m.2.2.2.1 n) := by
 obtain ⟨k, d, p, s, b⟩ := m
 simp only at hd ⊢
 unfold wire_checkMessage.f chkF
 simp only [within_eq, hd, ob_s, cb_not, cb_if, decide_eq_true_eq, beq_iff_eq, decide_eq_decide]
 cases dg
 ·by_cases h1 : 1 ≤ k ∧ k ≤ 6 <;> simp [h1]
 ·by_cases h1 : 1 ≤ k ∧ k ≤ 6
  ·by_cases h3 : 0 ≤ p ∧ p ≤ 2000000
   ·by_cases h4 : 0 ≤ s ∧ s ≤ 2000000
    ·by_cases h5 : 65536 < n
     ·simp [h1, h3, h4, h5]
     ·simp only [h1, h3, h4, h5, not_true_eq_false, and_self, if_true, if_false]
      by_cases h6 : k = 2
      ·subst h6
       by_cases h7 : s = 0 <;> by_cases h8 : 0 < n <;> simp [h7, h8]
      ·by_cases h7 : k = 3
       ·subst h7
        by_cases h8 : s = 0 <;> by_cases h9 : 0 < n <;> simp [h8, h9]
       ·by_cases h8 : k = 1
        ·subst h8
         by_cases h9 : p = 0 <;> by_cases h10 : 0 < n <;> simp [h9, h10]
        ·by_cases h9 : p = 0 <;> by_cases h10 : 0 < n <;> by_cases h11 : s = 0 <;> simp [h6, h7, h8, h9, h10, h11]
    ·simp [h1, h3, h4]
   ·simp [h1, h3]
  ·simp [h1]
theorem chk8_eq {m : Msg} {dg : Bool} (hd : blob_IsDigest.f m.2.1 = some dg) : ref8_checkMessage.f m = some (chkF dg m.1 m.2.2.1 m.2.2.2.1 (m.2.2.2.2.length : Int)) := by
 obtain ⟨k, d, p, s, b⟩ := m
 have hd8 : ref8_isDigest.f d = some dg := hd
 simp only at hd ⊢
 unfold ref8_checkMessage.f chkF ref8_hasFrom.f
 simp only [within8_eq, hd8, ob_s, cb_not, cb_if, decide_eq_true_eq, beq_iff_eq, decide_eq_decide]
 generalize (b.length : Int) = n
 cases dg
 ·by_cases h1 : 1 ≤ k ∧ k ≤ 6 <;> simp [h1]
 ·by_cases h1 : 1 ≤ k ∧ k ≤ 6
  ·by_cases h3 : 0 ≤ p ∧ p ≤ 2000000
   ·by_cases h4 : 0 ≤ s ∧ s ≤ 2000000
    ·by_cases h5 : 65536 < n
     ·simp [h1, h3, h4, h5]
     ·simp only [h1, h3, h4, h5, not_true_eq_false, and_self, if_true, if_false]
      by_cases h6 : k = 2
      ·subst h6
       by_cases h9 : p = 0 <;> by_cases h7 : s = 0 <;> by_cases h8 : 0 < n <;> simp [h7, h8, h9, ob_s]
      ·by_cases h7 : k = 3
       ·subst h7
        by_cases h10 : p = 0 <;> by_cases h8 : s = 0 <;> by_cases h9 : 0 < n <;> simp [h8, h9, h10, ob_s]
       ·by_cases h8 : k = 1
        ·subst h8
         by_cases h9 : p = 0 <;> by_cases h10 : 0 < n <;> by_cases h11 : s = 0 <;> simp [h9, h10, h11, ob_s]
        ·by_cases h9 : p = 0 <;> by_cases h10 : 0 < n <;> by_cases h11 : s = 0 <;> simp [h6, h7, h8, h9, h10, h11, ob_s]
    ·simp [h1, h3, h4]
   ·simp [h1, h3]
  ·simp [h1]
end Go.Proofs.YtpeiomhgaembaaaDoor
set_option linter.unusedVariables false
set_option linter.unusedSimpArgs false
namespace Go.Proofs.YtpeiomhgaembaaaDoor
open Go Go.Proofs.YtpeiomhgaembaaaDoor.Eng
theorem grow_eq (n : Int) (h0 : 0 ≤ n) (h1 : n ≤ 100000000000) : slices_Grow_byte_byte_n0_o.f () n = some [] := by
 unfold slices_Grow_byte_byte_n0_o.f
 simp only [cb_dec]
 rw [if_neg (by omega), ck_in (by omega) (by omega), ck_in (by omega) (by omega)]
 by_cases h : 0 < n - (0 - 0)
 ·rw [if_pos h, ck_pos (by omega), ck_pos (by omega), ck_pos (by simp only [List.length_replicate]; omega), ck_pos (by simp only [List.length_replicate]; omega)]
  simp
 ·rw [if_neg h]
theorem concat_eq (a b : List UInt8) (h : a.length + b.length ≤ 10000000000) : slices_Concat_byte_byte.f [a, b] = some (a ++ b) := by
 have l0 : slices_Concat_byte_byte.l0 [a, b] 2 0 0 = some ((a.length : Int) + b.length) := by
  refine (loopX_next (x' := ((a.length : Int), 1)) ?_).trans ((loopX_next (x' := ((a.length : Int) + b.length, 2)) ?_).trans (loopX_done ?_))
  ·simp only [slices_Concat_byte_byte.s0, cb_dec]
   have e : rd ([] : List UInt8) [a, b] 0 = a := rfl
   rw [if_pos (by omega), ck_pos (by simp), e, ck_in (by omega) (by omega), if_neg (by omega), ck_in (by omega) (by omega)]
   simp
  ·simp only [slices_Concat_byte_byte.s0, cb_dec]
   have e : rd ([] : List UInt8) [a, b] 1 = b := rfl
   rw [if_pos (by omega), ck_pos (by simp), e, ck_in (by omega) (by omega), if_neg (by omega), ck_in (by omega) (by omega)]
   simp
  ·simp only [slices_Concat_byte_byte.s0, cb_dec]
   rw [if_neg (by omega)]
 have l1 : slices_Concat_byte_byte.l1 [a, b] 2 0 [] = some (a ++ b) := by
  refine (loopX_next (x' := (1, a)) ?_).trans ((loopX_next (x' := (2, a ++ b)) ?_).trans (loopX_done ?_))
  ·simp only [slices_Concat_byte_byte.s1, cb_dec]
   have e : rd ([] : List UInt8) [a, b] 0 = a := rfl
   rw [if_pos (by omega), ck_pos (by simp), e, ck_pos (by simp; omega), ck_in (by omega) (by omega)]
   simp
  ·simp only [slices_Concat_byte_byte.s1, cb_dec]
   have e : rd ([] : List UInt8) [a, b] 1 = b := rfl
   rw [if_pos (by omega), ck_pos (by simp), e, ck_pos (by omega), ck_in (by omega) (by omega)]
   simp
  ·simp only [slices_Concat_byte_byte.s1, cb_dec]
   rw [if_neg (by omega)]
 unfold slices_Concat_byte_byte.f
 show ob (slices_Concat_byte_byte.l0 [a, b] 2 0 0) _ = _
 rw [l0, ob_s, grow_eq _ (by omega) (by omega), ob_s]
 show ob (slices_Concat_byte_byte.l1 [a, b] 2 0 []) _ = _
 rw [l1, ob_s]
def hK (y : List UInt8) : Int := ((UInt8.toNat (rd 0 y 0) : Nat) : Int)
def hD (y : List UInt8) : ByteArray := bstr (List.drop 1 (List.take 17 y))
def hN (y : List UInt8) : Nat := valN 0 (List.drop 17 (List.take 21 y))
def hM (y : List UInt8) : Nat := valN 0 (List.drop 21 (List.take 24 y))
def hdM (y : List UInt8) : Msg := (hK y, (hD y, (if hK y = 1 then 0 else (hN y : Int), (if hK y = 1 then (hN y : Int) else 0, []))))
theorem hN_lt (y : List UInt8) : hN y < 4294967296 := by
 have h := valN_lt (List.drop 17 (List.take 21 y)) 0
 have hp : (256 : Nat) ^ (List.drop 17 (List.take 21 y)).length ≤ 256 ^ 4 := Nat.pow_le_pow_right (by omega) (by rw [List.length_drop, List.length_take]; omega)
 unfold hN; omega
theorem hM_lt (y : List UInt8) : hM y < 16777216 := by
 have h := valN_lt (List.drop 21 (List.take 24 y)) 0
 have hp : (256 : Nat) ^ (List.drop 21 (List.take 24 y)).length ≤ 256 ^ 3 := Nat.pow_le_pow_right (by omega) (by rw [List.length_drop, List.length_take]; omega)
 unfold hM; omega
theorem nums (y : List UInt8) : wire_number.f (List.drop 17 (List.take 21 y)) = some ((hN y : Nat) : Int) ∧ wire_number.f (List.drop 21 (List.take 24 y)) = some ((hM y : Nat) : Int) :=
 ⟨number_eq _ (by rw [List.length_drop, List.length_take]; omega), number_eq _ (by rw [List.length_drop, List.length_take]; omega)⟩
theorem head_eq {y : List UInt8} (hl : 24 ≤ y.length) : wire_head.f y = some (hdM y, (hM y : Int)) := by
 obtain ⟨n1, n2⟩ := nums y
 have e17 : Int.toNat (17 : Int) = 17 := rfl
 have e21 : Int.toNat (21 : Int) = 21 := rfl
 have e24 : Int.toNat (24 : Int) = 24 := rfl
 have e1 : Int.toNat (1 : Int) = 1 := rfl
 unfold wire_head.f
 simp only [dup_eq, e17, e21, e24, e1, n1, n2, ob_s, cb_dec]
 rw [ck_pos (by omega), ck_pos (by omega), ck_pos (by omega), ck_pos (by omega)]
 by_cases hk : ((UInt8.toNat (rd 0 y 0) : Nat) : Int) = 1
 ·rw [if_pos hk]; simp [hdM, hK, hk, hD]
 ·rw [if_neg hk, ck_pos (by omega)]; simp [hdM, hK, hk, hD]
theorem chk_min (b : Bool) (k p s n : Int) (hn : 0 ≤ n) : chkF b k p s (min n 65537) = chkF b k p s n := by
 unfold chkF
 have h1 : (65536 < min n 65537) = (65536 < n) := by apply propext; omega
 have h2 : (0 < min n 65537) = (0 < n) := by apply propext; omega
 simp only [h1, h2]
theorem headOf_eq {y : List UInt8} (hl : 24 ≤ y.length) {dg : Bool} (hd : blob_IsDigest.f (hD y) = some dg) :
  ref8_headOf.f y = some (hdM y, (hM y : Int), chkF dg (hK y) (hdM y).2.2.1 (hdM y).2.2.2.1 (hM y : Int)) := by
 obtain ⟨n1, n2⟩ := nums y
 have hm := hM_lt y
 have e17 : Int.toNat (17 : Int) = 17 := rfl
 have e21 : Int.toNat (21 : Int) = 21 := rfl
 have e24 : Int.toNat (24 : Int) = 24 := rfl
 have e1 : Int.toNat (1 : Int) = 1 := rfl
 unfold ref8_headOf.f
 simp only [dup_eq, mix_eq, e17, e21, e24, e1, valueOf_eq, n1, n2, ob_s, cb_dec]
 have hrep : (((List.replicate (Int.toNat (min ((hM y : Nat) : Int) 65537)) (0 : UInt8)).length : Nat) : Int) = min ((hM y : Nat) : Int) 65537 := by rw [List.length_replicate]; omega
 have hc : ∀ p s : Int, ref8_checkMessage.f (((UInt8.toNat (rd 0 y 0) : Nat) : Int), (bstr (List.drop 1 (List.take 17 y)), (p, (s, List.replicate (Int.toNat (min ((hM y : Nat) : Int) 65537)) (0 : UInt8))))) = some (chkF dg (hK y) p s (hM y : Int)) := fun p s => by
  rw [chk8_eq (m := (((UInt8.toNat (rd 0 y 0) : Nat) : Int), (bstr (List.drop 1 (List.take 17 y)), (p, (s, List.replicate (Int.toNat (min ((hM y : Nat) : Int) 65537)) (0 : UInt8)))))) hd]
  simp only [hrep]
  rw [chk_min _ _ _ _ _ (by omega)]
  rfl
 rw [ck_pos (by omega), ck_pos (by omega), ck_pos (by omega), ck_pos (by omega)]
 by_cases hk : ((UInt8.toNat (rd 0 y 0) : Nat) : Int) = 1
 ·rw [if_pos hk, ck_pos (by omega), hc, ob_s]; simp [hdM, hK, hk, hD]
 ·rw [if_neg hk, ck_pos (by omega), hc, ob_s]; simp [hdM, hK, hk, hD]
def goodF (L : Nat) : ((List Msg × (List UInt8 × (Int × Int))) ⊕ (Int × List Msg)) → Prop
 | .inl t => t.1 = [] ∧ t.2.1 = []
 | .inr q => 0 ≤ q.1 ∧ q.1 ≤ (L : Int) ∧ q.2.length ≤ 20000 ∧ ∀ m ∈ q.2, m.2.2.2.2.length ≤ L
theorem feedLoop (v : List UInt8) (hv : v.length ≤ 10000000) : ∀ (n k : Nat) (o : List Msg), v.length - k ≤ n → k ≤ v.length → o.length ≤ 20000 → (∀ m ∈ o, m.2.2.2.2.length ≤ v.length) →
  ∃ r, wire_Feed.l0 v (k : Int) o = some r ∧ ref8_Feed.l0 v (k : Int) o = some r ∧ goodF v.length r := by
 intro n
 induction n with
 | zero =>
  intro k o hn hk ho hb
  refine ⟨.inr ((k : Int), o), loopX_done ?_, loopX_done ?_, by simp only [goodF]; exact ⟨by omega, by omega, ho, hb⟩⟩
  ·simp only [wire_Feed.s0, cb_dec]; rw [if_neg (by omega)]
  ·simp only [ref8_Feed.s0, cb_dec]; rw [if_neg (by omega)]
 | succ n ih =>
  intro k o hn hk ho hb
  by_cases hlt : k < v.length
  ·have ek : Int.toNat (k : Int) = k := by omega
   have hdl : (List.drop k v).length = v.length - k := List.length_drop
   have hrd0 : rd (0 : UInt8) (List.drop k v) 0 = rd (0 : UInt8) v (k : Int) := by
    rw [rd_lt hlt, show (0 : Int) = ((0 : Nat) : Int) from rfl, rd_lt (by omega)]
    simp
   by_cases hfull : o.length = 20000
   ·refine ⟨.inl ([], [], (k : Int), 16), loopX_done ?_, loopX_done ?_, ⟨rfl, rfl⟩⟩
    ·simp only [wire_Feed.s0, cb_dec]
     rw [if_pos (by omega), if_pos (by omega)]
    ·simp only [ref8_Feed.s0, cb_dec]
     rw [if_pos (by omega), ck_pos (by omega), if_pos (by omega)]
   ·by_cases hkind : 1 ≤ ((UInt8.toNat (rd (0 : UInt8) v (k : Int)) : Nat) : Int) ∧ ((UInt8.toNat (rd (0 : UInt8) v (k : Int)) : Nat) : Int) ≤ 6
    ·by_cases hshort : v.length - k < 24
     ·refine ⟨.inr ((k : Int), o), loopX_done ?_, loopX_done ?_, by simp only [goodF]; exact ⟨by omega, by omega, ho, hb⟩⟩
      ·simp only [wire_Feed.s0, cb_dec, cb_not, within_eq, ob_s]
       rw [if_pos (by omega), if_neg (by omega), ck_pos (by omega), if_pos hkind, ck_in (by omega) (by omega), if_pos (by omega)]
      ·simp only [ref8_Feed.s0, cb_dec, cb_not, within8_eq, ob_s, ek, hrd0, hdl]
       rw [if_pos (by omega), ck_pos (by omega), if_neg (by omega), ck_pos (by omega), if_pos hkind, if_pos (by omega)]
     ·obtain ⟨dg, hd⟩ := isDigest_eq (hD (List.drop k v))
      have hl24 : 24 ≤ (List.drop k v).length := by omega
      have h1 := head_eq hl24
      have h2 := headOf_eq hl24 hd
      have h3 : wire_checkMessage.f (hdM (List.drop k v)) (hM (List.drop k v) : Int) = some (chkF dg (hK (List.drop k v)) (hdM (List.drop k v)).2.2.1 (hdM (List.drop k v)).2.2.2.1 (hM (List.drop k v) : Int)) := chk_eq (m := hdM (List.drop k v)) hd
      have hm := hM_lt (List.drop k v)
      have hmb : (hdM (List.drop k v)).2.2.2.2 = [] := rfl
      by_cases hf : chkF dg (hK (List.drop k v)) (hdM (List.drop k v)).2.2.1 (hdM (List.drop k v)).2.2.2.1 (hM (List.drop k v) : Int) = 0
      ·by_cases hend : v.length < k + 24 + hM (List.drop k v)
       ·refine ⟨.inr ((k : Int), o), loopX_done ?_, loopX_done ?_, by simp only [goodF]; exact ⟨by omega, by omega, ho, hb⟩⟩
        ·simp only [wire_Feed.s0, cb_dec, cb_not, within_eq, ob_s, ek, h1, h3]
         rw [if_pos (by omega), if_neg (by omega), ck_pos (by omega), if_pos hkind, ck_in (by omega) (by omega), if_neg (by omega), ck_pos (by omega), if_pos hf, ck_in (by omega) (by omega), ck_in (by omega) (by omega), if_pos (by omega)]
        ·simp only [ref8_Feed.s0, cb_dec, cb_not, within8_eq, ob_s, ek, hrd0, hdl, h2]
         rw [if_pos (by omega), ck_pos (by omega), if_neg (by omega), ck_pos (by omega), if_pos hkind, if_neg (by omega), if_pos hf, ck_in (by omega) (by omega), if_pos (by omega)]
       ·have e24 : Int.toNat ((k : Int) + 24) = k + 24 := by omega
        have eE : Int.toNat ((k : Int) + 24 + (hM (List.drop k v) : Int)) = k + 24 + hM (List.drop k v) := by omega
        have e24' : Int.toNat (24 : Int) = 24 := rfl
        have eE' : Int.toNat ((24 : Int) + (hM (List.drop k v) : Int)) = 24 + hM (List.drop k v) := by omega
        let body : List UInt8 := List.drop (k + 24) (List.take (k + 24 + hM (List.drop k v)) v)
        have hbl : body.length = hM (List.drop k v) := by
         show (List.drop (k + 24) (List.take (k + 24 + hM (List.drop k v)) v)).length = _
         rw [List.length_drop, List.length_take]; omega
        have hbody : List.drop 24 (List.take (24 + hM (List.drop k v)) (List.drop k v)) = body := by
         show _ = List.drop (k + 24) (List.take (k + 24 + hM (List.drop k v)) v)
         rw [List.take_drop, List.drop_drop]
         congr 2; omega
        have hcl : slices_Clone_byte_byte.f body = some body := cloneB (by omega)
        let msg : Msg := ((hdM (List.drop k v)).1, ((hdM (List.drop k v)).2.1, ((hdM (List.drop k v)).2.2.1, ((hdM (List.drop k v)).2.2.2.1, body))))
        have hlen : (List.length o + List.length ([msg] : List Msg)) * 64 ≤ 140737488355328 := by simp; omega
        obtain ⟨r, h4, h5, h6⟩ := ih (k + 24 + hM (List.drop k v)) (o ++ [msg]) (by omega) (by omega) (by simp; omega) (by
         intro m hm'
         rcases List.mem_append.1 hm' with h | h
         ·exact hb m h
         ·rw [List.mem_singleton.1 h]
          show body.length ≤ _
          omega)
        have ecast : ((k + 24 + hM (List.drop k v) : Nat) : Int) = (k : Int) + 24 + (hM (List.drop k v) : Int) := by omega
        refine ⟨r, (loopX_next (x' := ((k : Int) + 24 + (hM (List.drop k v) : Int), o ++ [msg])) ?_).trans (ecast ▸ h4), (loopX_next (x' := ((k : Int) + 24 + (hM (List.drop k v) : Int), o ++ [msg])) ?_).trans (ecast ▸ h5), h6⟩
        ·simp only [wire_Feed.s0, cb_dec, cb_not, within_eq, ob_s, ek, h1, h3]
         rw [if_pos (by omega), if_neg (by omega), ck_pos (by omega), if_pos hkind, ck_in (by omega) (by omega), if_neg (by omega), ck_pos (by omega), if_pos hf, ck_in (by omega) (by omega), ck_in (by omega) (by omega), if_neg (by omega)]
         by_cases hz : (0 : Int) < (hM (List.drop k v) : Int)
         ·rw [if_pos hz, ck_in (by omega) (by omega), ck_pos (by omega)]
          simp only [e24, eE]
          show ob (slices_Clone_byte_byte.f body) _ = _
          rw [hcl, ob_s, ck_pos hlen]
         ·rw [if_neg hz, ck_pos (by simp; omega)]
          have hb0 : body = [] := List.eq_nil_of_length_eq_zero (by omega)
          have : msg = hdM (List.drop k v) := by
           show ((hdM (List.drop k v)).1, ((hdM (List.drop k v)).2.1, ((hdM (List.drop k v)).2.2.1, ((hdM (List.drop k v)).2.2.2.1, body)))) = _
           rw [hb0]; rfl
          rw [this]
        ·simp only [ref8_Feed.s0, cb_dec, cb_not, within8_eq, ob_s, ek, hrd0, hdl, h2, e24', eE']
         rw [if_pos (by omega), ck_pos (by omega), if_neg (by omega), ck_pos (by omega), if_pos hkind, if_neg (by omega), if_pos hf, ck_in (by omega) (by omega), if_neg (by omega), ck_in (by omega) (by omega), ck_pos (by omega), hbody]
         show ob (slices_Clone_byte_byte.f body) _ = _
         rw [hcl, ob_s, ck_pos hlen, ck_in (by omega) (by omega), ck_in (by omega) (by omega)]
      ·refine ⟨.inl ([], [], (k : Int), chkF dg (hK (List.drop k v)) (hdM (List.drop k v)).2.2.1 (hdM (List.drop k v)).2.2.2.1 (hM (List.drop k v) : Int)), loopX_done ?_, loopX_done ?_, ⟨rfl, rfl⟩⟩
       ·simp only [wire_Feed.s0, cb_dec, cb_not, within_eq, ob_s, ek, h1, h3]
        rw [if_pos (by omega), if_neg (by omega), ck_pos (by omega), if_pos hkind, ck_in (by omega) (by omega), if_neg (by omega), ck_pos (by omega), if_neg hf]
       ·simp only [ref8_Feed.s0, cb_dec, cb_not, within8_eq, ob_s, ek, hrd0, hdl, h2]
        rw [if_pos (by omega), ck_pos (by omega), if_neg (by omega), ck_pos (by omega), if_pos hkind, if_neg (by omega), if_neg hf]
    ·refine ⟨.inl ([], [], (k : Int), 4), loopX_done ?_, loopX_done ?_, ⟨rfl, rfl⟩⟩
     ·simp only [wire_Feed.s0, cb_dec, cb_not, within_eq, ob_s]
      rw [if_pos (by omega), if_neg (by omega), ck_pos (by omega), if_neg hkind]
     ·simp only [ref8_Feed.s0, cb_dec, cb_not, within8_eq, ob_s, ek, hrd0, hdl]
      rw [if_pos (by omega), ck_pos (by omega), if_neg (by omega), ck_pos (by omega), if_neg hkind]
  ·refine ⟨.inr ((k : Int), o), loopX_done ?_, loopX_done ?_, by simp only [goodF]; exact ⟨by omega, by omega, ho, hb⟩⟩
   ·simp only [wire_Feed.s0, cb_dec]; rw [if_neg (by omega)]
   ·simp only [ref8_Feed.s0, cb_dec]; rw [if_neg (by omega)]
end Go.Proofs.YtpeiomhgaembaaaDoor
set_option linter.unusedVariables false
set_option linter.unusedSimpArgs false
namespace Go.Proofs.YtpeiomhgaembaaaDoor
open Go Go.Proofs.YtpeiomhgaembaaaDoor.Eng
theorem msgLoop (d : ByteArray) (b : List UInt8) (most : Int) (hb : b.length ≤ 100000) (hm : 1 ≤ most ∧ most ≤ 65536) :
  ∀ (n k : Nat) (o : List Msg), b.length + 65536 - k ≤ n → k ≤ b.length + 65536 → o.length ≤ k + 1 → (∀ m ∈ o, m.2.2.2.2.length ≤ 100000) →
   ∃ o', wire_Messages.l0 d b most (k : Int) o = some o' ∧ ref8_messages.l0 d b most (k : Int) o = some o' ∧ o'.length ≤ 200000 ∧ ∀ m ∈ o', m.2.2.2.2.length ≤ 100000 := by
 intro n
 induction n with
 | zero =>
  intro k o hn hk ho hbs
  refine ⟨o, loopX_done ?_, loopX_done ?_, by omega, hbs⟩
  ·simp only [wire_Messages.s0, cb_dec]
   rw [if_neg (by omega)]
  ·simp only [ref8_messages.s0, cb_dec]
   rw [if_neg (by omega)]
 | succ n ih =>
  intro k o hn hk ho hbs
  by_cases hlt : k < b.length
  ·obtain ⟨mn, hmn⟩ := Int.eq_ofNat_of_zero_le (show 0 ≤ most by omega)
   subst hmn
   let y : List UInt8 := List.drop k (List.take (Int.toNat (min ((k : Int) + (mn : Int)) (b.length : Int))) b)
   have hy : y.length ≤ 100000 := by
    show (List.drop k (List.take _ b)).length ≤ 100000
    rw [List.length_drop, List.length_take]; omega
   have ek : Int.toNat (k : Int) = k := by omega
   obtain ⟨o', h1, h2, h3, h4⟩ := ih (k + mn) (o ++ [((2 : Int), (d, ((k : Int), ((0 : Int), y))))]) (by omega) (by omega) (by simp; omega) (by
    intro m hm'
    rcases List.mem_append.1 hm' with h | h
    ·exact hbs m h
    ·rw [List.mem_singleton.1 h]; exact hy)
   have hlen : (List.length o + List.length ([((2 : Int), (d, ((k : Int), ((0 : Int), y))))] : List Msg)) * 64 ≤ 140737488355328 := by simp; omega
   have hcl : slices_Clone_byte_byte.f y = some y := cloneB (by omega)
   have hpos : 0 ≤ (k : Int) ∧ (k : Int) ≤ min ((k : Int) + (mn : Int)) (b.length : Int) ∧ min ((k : Int) + (mn : Int)) (b.length : Int) ≤ (b.length : Int) := by omega
   have hdf : wire_dataFrom.f d b (k : Int) (mn : Int) = some ((2 : Int), (d, ((k : Int), ((0 : Int), y)))) := by
    unfold wire_dataFrom.f
    rw [ck_in (by omega) (by omega)]
    simp only [ek]
    rw [ck_pos hpos]
    show ob (slices_Clone_byte_byte.f y) _ = _
    rw [hcl, ob_s]
   refine ⟨o', (loopX_next ?_).trans h1, (loopX_next ?_).trans h2, h3, h4⟩
   ·simp only [wire_Messages.s0, cb_dec, hdf, ob_s]
    rw [if_pos (by omega), ck_pos hlen, ck_in (by omega) (by omega)]
    simp
   ·simp only [ref8_messages.s0, cb_dec, ek]
    rw [if_pos (by omega), ck_in (by omega) (by omega), ck_pos hpos]
    show ob (slices_Clone_byte_byte.f y) _ = _
    rw [hcl, ob_s, ck_pos hlen, ck_in (by omega) (by omega)]
    simp
  ·refine ⟨o, loopX_done ?_, loopX_done ?_, by omega, hbs⟩
   ·simp only [wire_Messages.s0, cb_dec]
    rw [if_neg (by omega)]
   ·simp only [ref8_messages.s0, cb_dec]
    rw [if_neg (by omega)]
theorem sameMsg (m : Msg) (h : m.2.2.2.2.length ≤ 1000000000000000) : ref8_SameMessage.f m m = some true := by
 unfold ref8_SameMessage.f
 simp only [decide_true, cb_t, equalB h, ob_s]
theorem sameMsgs (l : List Msg) (hl : l.length ≤ 1000000000000000) (h : ∀ m ∈ l, m.2.2.2.2.length ≤ 1000000000000000) : ref8_SameMessages.f l l = some true := by
 have go : ∀ (n k : Nat), l.length - k = n → k ≤ l.length → ref8_SameMessages.l0 l l (l.length : Int) (k : Int) = some (.inr ()) := by
  intro n
  induction n with
  | zero =>
   intro k hn hk
   refine loopX_done ?_
   simp only [ref8_SameMessages.s0, cb_dec]
   rw [if_neg (by omega)]
  | succ n ih =>
   intro k hn hk
   have hlt : k < l.length := by omega
   refine (loopX_next ?_).trans (ih (k + 1) (by omega) (by omega))
   simp only [ref8_SameMessages.s0, cb_dec, cb_not, rd_lt hlt, sameMsg _ (h _ (List.getElem_mem hlt)), ob_s, cb_t]
   rw [if_pos (by omega), ck_pos (by omega), ck_pos (by omega), ck_in (by omega) (by omega)]
   rfl
 unfold ref8_SameMessages.f
 have := go l.length 0 (by omega) (by omega)
 rw [show ((0 : Nat) : Int) = 0 from rfl] at this
 simp only [decide_true, Bool.not_true, cb_f, this, ob_s, caseS_r]
theorem messages_same (d : ByteArray) (b : List UInt8) (p most : Int) :
  ∃ r, wire_Messages.f d b p most = some r ∧ ref8_Messages.f d b p most = some r ∧ r.1.length ≤ 200000 ∧ ∀ m ∈ r.1, m.2.2.2.2.length ≤ 100000 := by
 obtain ⟨q, hq⟩ := isDigest_eq d
 have h8 : ref8_isDigest.f d = some q := hq
 unfold wire_Messages.f ref8_Messages.f wire_checkContent.f
 simp only [hq, h8, ob_s, cb_not]
 cases q with
 | false =>
  simp only [cb_f, ob_s, cb_dec]
  exact ⟨_, by rw [if_neg (by decide)], rfl, by simp, fun m h => by cases h⟩
 | true =>
  simp only [cb_t, cb_dec]
  by_cases h1 : (100000 : Int) < (b.length : Int)
  ·rw [if_pos h1, if_pos h1, ob_s, if_neg (by decide)]
   exact ⟨_, rfl, rfl, by simp, fun m h => by cases h⟩
  ·rw [if_neg h1, if_neg h1, ob_s, if_pos rfl]
   simp only [within_eq, within8_eq, ob_s, cb_dec]
   by_cases h2 : 0 ≤ p ∧ p ≤ (b.length : Int)
   ·rw [if_pos h2, if_pos h2]
    by_cases h3 : 1 ≤ most ∧ most ≤ 65536
    ·rw [if_pos h3, if_pos h3]
     obtain ⟨k, rfl⟩ := Int.eq_ofNat_of_zero_le h2.1
     obtain ⟨o', h4, h5, h6, h7⟩ := msgLoop d b most (by omega) h3 (b.length + 65536 - k) k [((1 : Int), (d, ((0 : Int), ((b.length : Int), ([] : List UInt8)))))] (by omega) (by omega) (by simp) (by simp)
     refine ⟨(o', 0), ?_, ?_, h6, h7⟩
     ·rw [h4, ob_s]
     ·unfold ref8_messages.f
      simp only
      rw [h5, ob_s, ob_s]
    ·rw [if_neg h3, if_neg h3]
     exact ⟨_, rfl, rfl, by simp, fun m h => by cases h⟩
   ·rw [if_neg h2, if_neg h2]
    exact ⟨_, rfl, rfl, by simp, fun m h => by cases h⟩
theorem law_MM (d : ByteArray) (b : List UInt8) (p most : Int) (hb : b.length ≤ 140737488355328) : law8_WireMessagesMatchSpec.f d b p most = some true := by
 obtain ⟨r, h1, h2, h3, h4⟩ := messages_same d b p most
 unfold law8_WireMessagesMatchSpec.f
 rw [cloneB hb, ob_s, h1, ob_s, h2, ob_s]
 simp only [decide_true, cb_t, sameMsgs r.1 (by omega) (fun m hm => Nat.le_trans (h4 m hm) (by omega)), ob_s, equalB (show b.length ≤ 1000000000000000 by omega), awake_eq]
end Go.Proofs.YtpeiomhgaembaaaDoor
set_option linter.unusedVariables false
set_option linter.unusedSimpArgs false
namespace Go.Proofs.YtpeiomhgaembaaaDoor
open Go Go.Proofs.YtpeiomhgaembaaaDoor.Eng
theorem feed_same (a b : List UInt8) : ∃ r, wire_Feed.f a b = some r ∧ ref8_Feed.f a b = some r ∧ r.2.1.length ≤ 10000000 ∧ r.1.length ≤ 20000 ∧ ∀ m ∈ r.1, m.2.2.2.2.length ≤ 10000000 := by
 unfold wire_Feed.f ref8_Feed.f
 simp only [cb_dec]
 by_cases h1 : (65560 : Int) < (a.length : Int)
 ·rw [if_pos h1, if_pos h1]; exact ⟨_, rfl, rfl, by simp, by simp, fun m h => by cases h⟩
 ·rw [if_neg h1, if_neg h1]
  by_cases h2 : (2000000 : Int) < (b.length : Int)
  ·rw [if_pos h2, if_pos h2]; exact ⟨_, rfl, rfl, by simp, by simp, fun m h => by cases h⟩
  ·rw [if_neg h2, if_neg h2, concat_eq a b (by omega), ob_s, ob_s]
   have hlen : (a ++ b).length = a.length + b.length := List.length_append
   obtain ⟨r, h3, h4, h5⟩ := feedLoop (a ++ b) (by omega) (a ++ b).length 0 [] (by omega) (by omega) (by simp) (fun m h => by cases h)
   rw [show ((0 : Nat) : Int) = 0 from rfl] at h3 h4
   rw [h3, h4, ob_s]
   cases r with
   | inl t =>
    obtain ⟨e1, e2⟩ := h5
    simp only [caseS_l]
    exact ⟨_, rfl, rfl, by rw [e2]; simp, by rw [e1]; simp, by rw [e1]; exact fun m h => by cases h⟩
   | inr q =>
    obtain ⟨e1, e2, e3, e4⟩ := h5
    simp only [caseS_r]
    have hcl : slices_Clone_byte_byte.f (List.drop (Int.toNat q.1) (a ++ b)) = some (List.drop (Int.toNat q.1) (a ++ b)) := cloneB (by rw [List.length_drop]; omega)
    rw [ck_pos ⟨e1, e2⟩, hcl, ob_s]
    exact ⟨_, rfl, rfl, by simp only [List.length_drop]; omega, e3, fun m h => Nat.le_trans (e4 m h) (by omega)⟩
theorem law_FE (a b : List UInt8) (ha : a.length ≤ 140737488355328) (hb : b.length ≤ 140737488355328) : law8_WireFeedMatchesSpec.f a b = some true := by
 obtain ⟨r, h1, h2, h3, h4, h5⟩ := feed_same a b
 unfold law8_WireFeedMatchesSpec.f
 rw [cloneB ha, ob_s, cloneB hb, ob_s, h1, ob_s, h2, ob_s]
 simp only [decide_true, cb_t, sameMsgs r.1 (by omega) (fun m hm => Nat.le_trans (h5 m hm) (by omega)), equalB (show r.2.1.length ≤ 1000000000000000 by omega), equalB (show a.length ≤ 1000000000000000 by omega), equalB (show b.length ≤ 1000000000000000 by omega), ob_s, awake_eq]
end Go.Proofs.YtpeiomhgaembaaaDoor
set_option linter.unusedVariables false
set_option linter.unusedSimpArgs false
set_option maxRecDepth 100000
set_option maxHeartbeats 4000000
namespace Go.Proofs.YtpeiomhgaembaaaDoor
open Go Go.RowKit Go.ChangeShapes Go.WideShapes Go.ChangeAt Go.Proofs.YtpeiomhgaembaaaDoor.Eng
theorem law_FE' (x : List UInt8 × List UInt8) (hx : InA T 6 [32, 32] [.slice .byte, .slice .byte] x) : law8_WireFeedMatchesSpec.f x.1 x.2 = some true := by
 have hr : reachBytes ≤ 140737488355328 := by decide +kernel
 have h1 : List.length x.1 * 1 ≤ reachBytes := hx.1.1
 have h2 : List.length x.2 * 1 ≤ reachBytes := hx.2.1
 exact law_FE x.1 x.2 (by omega) (by omega)
theorem own : ownKnob Tryd.prog.godebug = none := by kernel_rfl
theorem laidOut : laidOutB Tryd.prog = true := by kernel_rfl
theorem wireFeedMatchesSpec_av (xs : List AV) (h : ShapeA T 6 [32,32] xs) : FPure Tryd.prog 6 xs (.v (.bool true)) :=
 law_typed (T := T) (m := 6) (ts := [32,32]) law8_WireFeedMatchesSpec.ok (by kernel_rfl) (fun x hx => law_FE' x hx) xs h
theorem wireFeedMatchesSpec_lifted (os : Os) (started : os.Started) (H : Type) (enc : TypeId × Value → H) :
  ReturnsInHanded {} Tryd.checked os 6 .any (fun w args => (Rows.wireFeedMatchesSpecSpec.pre enc Tryd.prog Tryd.f6 Rows.wireFeedMatchesSpecRow.domain false w args ∧ laidMetH Tryd.prog Rows.wireFeedMatchesSpecRow.laid w) ∧ sizedMet enc Tryd.prog Tryd.f6 (OpenSpec.ofChange Rows.wireFeedMatchesSpecSpec) false w args)
   (Rows.wireFeedMatchesSpecSpec.post enc Tryd.prog Tryd.f6 false true false false) := by
 refine returnsInHanded_of_change_and (C := Tryd.checked) (X := fun w _ => laidMetH Tryd.prog Rows.wireFeedMatchesSpecRow.laid w) (fun _ _ _ hh h => h.of_heap hh) own started (by kernel_rfl) Tryd.func6
  (ChangeSpec.witness_shaped (enc := enc) (C := Tryd.checked) (os := os) (X := fun w _ => laidMetH Tryd.prog Rows.wireFeedMatchesSpecRow.laid w) false (World.laidAll Tryd.prog os Rows.wireFeedMatchesSpecRow.laid) #[.slice none 0 0, .slice none 0 0] 8 (World.laidAll_os _ _ _)
   (World.shaped_of_ZipB (by kernel_rfl) (by kernel_rfl)) (by kernel_rfl) (by kernel_rfl) (by kernel_rfl)
   (by rw [MakeChecks.laidMetH_plain _ _ _ (by kernel_rfl)]; exact laidMet_laidAll _ (by kernel_rfl) (by kernel_rfl))) ?_
 intro W base args ds gs before hval0 hW hcnd hsz0 hL _
 have hW' := hW
 obtain ⟨p, q, hA0, hV, rfl, hfz, hnd⟩ := hW
 have hsz : (DataW.weightsEach Tryd.prog (Tryd.f6.params.toList ++ Rows.wireFeedMatchesSpecSpec.plain.varTypes Tryd.prog) (ds ++ gs)).all (· ≤ reachBytes) = true := hsz0
 have hA : DataW.TrodAll enc Tryd.prog W 0 (fun _ => true) true [32,32] args.toList ds p := hA0
 obtain ⟨rfl, rfl⟩ := trodVars_none hV
 have hlaw := law_calls (r := .any) (b0 := base) tabOK laidOut wireFeedMatchesSpec_av (by decide +kernel) (by kernel_rfl) hA (fun j t v h1 h2 => hval0 j t v (by simpa using h1) (by simpa using h2)) (by rw [List.append_nil] at hsz; exact hsz)
 simp only [Array.toArray_toList] at hlaw
 refine hlaw.mono fun e W' ⟨he, bel, hback⟩ => ?_
 subst he
 obtain ⟨d1, d2, hds⟩ : ∃ d1 d2, ds = [d1, d2] := by
  obtain ⟨_, _, d1, _, _, _, _, rfl, _, _, h⟩ := trodAll_cons hA
  obtain ⟨_, _, d2, _, _, _, _, rfl, _, _, h⟩ := trodAll_cons h
  obtain ⟨_, rfl, _⟩ := trodAll_nil h
  exact ⟨d1, d2, rfl⟩
 subst hds
 exact ⟨_, rfl, _, _, _, [], _, [], hW', trodAll_mk1 (shut_bool Tryd.underlying4 _), hback, rfl, bel.frame _, fun h => by cases h⟩
theorem wireFeedMatchesSpec_facts : joinedFacts Tryd.prog 6 Tryd.f6 Rows.wireFeedMatchesSpecSpec Rows.wireFeedMatchesSpecRow = true := by kernel_rfl
theorem wireFeedMatchesSpec_over : Rows.wireFeedMatchesSpecRow.holds Tryd.pinned (OpenSpec.ofChange Rows.wireFeedMatchesSpecSpec) :=
 OpenClaim.holds_of_wide 6 Tryd.f6 rfl rfl rfl rfl rfl rfl rfl ⟨rfl, rfl, rfl, rfl, rfl⟩ rfl rfl rfl rfl rfl (by kernel_rfl) Tryd.func6 wireFeedMatchesSpec_facts
  (of_decide_eq_true (by kernel_rfl)) (by unfold Func.isWrapper; first | (rw [if_pos (by decide +kernel)]; kernel_rfl) | (rw [if_neg (by decide +kernel)]; exact ⟨rfl, rfl⟩))
  (fun os started H enc _ => wireFeedMatchesSpec_lifted os started H enc)
theorem wireFeedMatchesSpec_wf : Rows.wireFeedMatchesSpecRow.wfByText (OpenSpec.ofChange Rows.wireFeedMatchesSpecSpec) = true := by kernel_rfl
theorem wireFeedMatchesSpec_main : Tryd.pinned.checked.prog.mainIs = some (true, "e39929bad2eab1783ee56fd07625803768cd0b14b7dff25f9ddf956a9ecc1117".toList) := by kernel_rfl
theorem wireFeedMatchesSpec_looks : false = Tryd.pinned.checked.prog.looks [] := by kernel_rfl
theorem wireFeedMatchesSpec_goes : false = Rows.wireFeedMatchesSpecRow.goesBy Tryd.pinned.checked.prog := by kernel_rfl
theorem wireFeedMatchesSpec_named : Tryd.prog.funcNamed "smithyard/smithyardlaw8.WireFeedMatchesSpec" = some 6 := by kernel_rfl
theorem wireFeedMatchesSpec_noStand : ([32,32].all fun u => !Tryd.prog.wantsStandIn u) = true := by kernel_rfl
theorem wireFeedMatchesSpec_holds : Rows.WireFeedMatchesSpecCardSaid :=
 Claim7.holds_tied_plain_at .later [] [.data, .pinned] true (true, "e39929bad2eab1783ee56fd07625803768cd0b14b7dff25f9ddf956a9ecc1117") false wireFeedMatchesSpec_over (fun _ h => by cases h) wireFeedMatchesSpec_wf (fun _ h => by cases h) wireFeedMatchesSpec_row_tie rfl ⟨rfl, rfl⟩ wireFeedMatchesSpec_main rfl
  (fun f fn hf hfn => by
   obtain rfl : f = 6 := Option.some.inj (wireFeedMatchesSpec_named.symm.trans hf) |>.symm
   obtain rfl : fn = Tryd.f6 := (Option.some.inj (Tryd.func6.symm.trans hfn)).symm
   exact ⟨wireFeedMatchesSpec_looks, fun j t ht => by
    rw [Tryd.params6] at ht
    have hm : t ∈ [32,32] := by simpa using Array.mem_of_getElem? ht
    exact (show Tryd.prog.wantsStandIn t = false by simpa using List.all_eq_true.1 wireFeedMatchesSpec_noStand t hm)⟩)
  wireFeedMatchesSpec_goes
end Go.Proofs.YtpeiomhgaembaaaDoor
