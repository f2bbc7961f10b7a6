/-
  The plain laws of frames and of feeding them, over the printed functions. No condition.
-/
import Derived.Test.YtpeiomhgaembaaaDoorFun
set_option linter.unusedVariables false
set_option linter.unusedSimpArgs false
namespace Go.Proofs.YtpeiomhgaembaaaDoor
open Go Go.Proofs.YtpeiomhgaembaaaDoor.Eng
theorem ck_dec {β : Type} {c : Prop} [h : Decidable c] {a : Option β} : ck c a = if c then a else none := by
 by_cases hc : c
 ·rw [ck_pos hc, if_pos hc]
 ·rw [if_neg hc]; unfold ck; rw [if_neg hc]
instance inR_dec (x : Int) : Decidable (InR x) := by unfold InR; infer_instance
theorem within_eq (a b c : Int) : wire_within.f a b c = some (decide (b ≤ a ∧ a ≤ c)) := by
 unfold wire_within.f
 rw [cb_dec]
 by_cases h : b ≤ a <;> simp [h]
theorem within8_eq (a b c : Int) : ref8_within.f a b c = some (decide (b ≤ a ∧ a ≤ c)) := by
 unfold ref8_within.f
 rw [cb_dec]
 by_cases h : b ≤ a <;> simp [h]
theorem starts_awake : wire_Starts.f ((2 : Int), (10 : Int)) [((0 : Int), (8 : Int)), ((0 : Int), (8 : Int))] = some ([0, 3], 0) := by
 have q : wire_CheckQuota.f ((2 : Int), (10 : Int)) = some 0 := by
  simp only [wire_CheckQuota.f, within_eq, ob_s]; rfl
 have l0 : wire_Starts.l0 [((0 : Int), (8 : Int)), ((0 : Int), (8 : Int))] ((2 : Int), (10 : Int)) [((0 : Int), (8 : Int)), ((0 : Int), (8 : Int))] 2 0 = some (.inr ()) := by
  refine (loopX_next (x' := 1) ?_).trans ((loopX_next (x' := 2) ?_).trans (loopX_done ?_))
  ·simp only [wire_Starts.s0, ck_dec, within_eq, ob_s]; rfl
  ·simp only [wire_Starts.s0, ck_dec, within_eq, ob_s]; rfl
  ·simp only [wire_Starts.s0, ck_dec, within_eq, ob_s]; rfl
 have l1 : wire_Starts.l1 ((2 : Int), (10 : Int)) [((0 : Int), (8 : Int)), ((0 : Int), (8 : Int))] 2 0 10 0 [] = some (3, [0, 3]) := by
  refine (loopX_next (x' := (0, 2, 1, [0])) ?_).trans ((loopX_next (x' := (3, 0, 2, [0, 3])) ?_).trans (loopX_done ?_))
  ·simp only [wire_Starts.s1, ck_dec]; rfl
  ·simp only [wire_Starts.s1, ck_dec]; rfl
  ·simp only [wire_Starts.s1, ck_dec]; rfl
 unfold wire_Starts.f
 rw [q, ob_s]
 show ob (wire_Starts.l0 [((0 : Int), (8 : Int)), ((0 : Int), (8 : Int))] ((2 : Int), (10 : Int)) [((0 : Int), (8 : Int)), ((0 : Int), (8 : Int))] 2 0) _ = _
 rw [l0, ob_s, caseS_r]
 show ob (wire_Starts.l1 ((2 : Int), (10 : Int)) [((0 : Int), (8 : Int)), ((0 : Int), (8 : Int))] 2 0 10 0 []) _ = _
 rw [l1, ob_s]
 rfl
theorem awake_eq : law8_awake.f = some true := by
 unfold law8_awake.f
 rw [starts_awake, ob_s]
 simp only [ck_dec]
 rfl
theorem cloneB {l : List UInt8} (h : l.length ≤ 140737488355328) : slices_Clone_byte_byte.f l = some l := by
 unfold slices_Clone_byte_byte.f
 by_cases he : l = []
 ·subst he
  rw [ck_pos (by simp)]
  exact nq_same
 ·unfold nq
  rw [if_pos he, ck_pos (by simp; omega)]
  rfl
theorem equalB2 (a b : List UInt8) (ha : a.length ≤ 1000000000000000) : slices_Equal_byte_byte.f a b = some (decide (a = b)) := by
 have go : ∀ (n k : Nat), a.length = b.length → a.length - k = n → k ≤ a.length → slices_Equal_byte_byte.l0 a b (a.length : Int) (k : Int) = some (if a.drop k = b.drop k then .inr () else .inl false) := by
  intro n
  induction n with
  | zero =>
   intro k hab hn hk
   obtain rfl : k = a.length := by omega
   refine loopX_done ?_
   simp only [slices_Equal_byte_byte.s0, cb_dec]
   rw [if_neg (by omega), List.drop_length, hab, List.drop_length, if_pos rfl]
  | succ n ih =>
   intro k hab hn hk
   have hlt : k < a.length := by omega
   have hlt2 : k < b.length := by omega
   have ihk := ih (k + 1) hab (by omega) (by omega)
   rw [List.drop_eq_getElem_cons hlt, List.drop_eq_getElem_cons hlt2]
   by_cases he : a[k] = b[k]
   ·refine (loopX_next (x' := ((k + 1 : Nat) : Int)) ?_).trans (ihk.trans ?_)
    ·simp only [slices_Equal_byte_byte.s0, cb_dec, cb_not, rd_lt hlt, rd_lt hlt2]
     rw [if_pos (by omega), ck_pos (by omega), ck_pos (by omega), if_pos (by rw [he]), ck_in (by omega) (by omega)]
     rfl
    ·congr 1; simp only [List.cons.injEq, he, true_and]
   ·refine loopX_done ?_
    simp only [slices_Equal_byte_byte.s0, cb_dec, cb_not, rd_lt hlt, rd_lt hlt2]
    have hne : ¬ (((UInt8.toNat a[k] : Nat) : Int) = ((UInt8.toNat b[k] : Nat) : Int)) := fun h => he (UInt8.toNat_inj.1 (by omega))
    rw [if_pos (by omega), ck_pos (by omega), ck_pos (by omega), if_neg hne, if_neg (fun h => he (List.cons.inj h).1)]
 unfold slices_Equal_byte_byte.f
 simp only [cb_not, cb_dec]
 by_cases hl : a.length = b.length
 ·rw [if_pos (by omega), show (0 : Int) = ((0 : Nat) : Int) from rfl, go a.length 0 hl (by omega) (by omega), ob_s]
  simp only [List.drop_zero]
  by_cases h : a = b
  ·rw [if_pos h, caseS_r]; simp [h]
  ·rw [if_neg h, caseS_l]; simp [h]
 ·rw [if_neg (by omega)]
  have : a ≠ b := fun h => hl (by rw [h])
  simp [this]
theorem equalB {l : List UInt8} (h : l.length ≤ 1000000000000000) : slices_Equal_byte_byte.f l l = some true := by rw [equalB2 l l h]; simp
theorem isDigest_eq (s : ByteArray) : ∃ b : Bool, blob_IsDigest.f s = some b := by
 unfold blob_IsDigest.f
 simp only [cb_dec]
 by_cases h : (s.size : Int) = 16
 ·rw [if_pos h]
  unfold strings_Trim.f
  rw [ck_pos ⟨by omega, by decide, by decide⟩, ob_s]
  exact ⟨_, rfl⟩
 ·rw [if_neg h]; exact ⟨_, rfl⟩
theorem isDigest8_eq : ref8_isDigest.f = blob_IsDigest.f := rfl
end Go.Proofs.YtpeiomhgaembaaaDoor
set_option linter.unusedVariables false
set_option linter.unusedSimpArgs false
namespace Go.Proofs.YtpeiomhgaembaaaDoor
open Go Go.Proofs.YtpeiomhgaembaaaDoor.Eng
abbrev Msg := Int × (ByteArray × (Int × (Int × List UInt8)))
theorem cb_if {β : Type} {b : Bool} {x y : Option β} : cb b x y = if b = true then x else y := by cases b <;> rfl
theorem i64w {r : Int} (h1 : -9223372036854775808 ≤ r) (h2 : r ≤ 9223372036854775807) : IntKind.wrap .i64 r = r := IntWalk.i64_in r ⟨h1, h2⟩
def valN (n : Nat) : List UInt8 → Nat
 | [] => n
 | b :: l => valN (n * 256 + b.toNat) l
theorem or_step (n : Nat) (b : UInt8) (hn : n < 1099511627776) :
  IntKind.wrap .i64 ((BitVec.toNat (BitVec.ofInt (IntKind.bits .i64) (IntKind.wrap .i64 ((n : Int) * 2 ^ min (Int.toNat (8 : Int)) (IntKind.bits .i64))) ||| BitVec.ofInt (IntKind.bits .i64) ((UInt8.toNat b : Nat) : Int)) : Nat) : Int) = ((n * 256 + b.toNat : Nat) : Int) := by
 have hb := b.toNat_lt
 have e0 : IntKind.bits .i64 = 64 := rfl
 have e1 : (2 : Int) ^ min (Int.toNat (8 : Int)) (IntKind.bits .i64) = 256 := by decide
 rw [e1, i64w (r := (n : Int) * 256) (by omega) (by omega), e0]
 have e2 : ((n : Int) * 256) = ((n * 256 : Nat) : Int) := by omega
 rw [e2, BitVec.ofInt_natCast, BitVec.ofInt_natCast, BitVec.toNat_or, BitVec.toNat_ofNat, BitVec.toNat_ofNat, Nat.mod_eq_of_lt (by omega), Nat.mod_eq_of_lt (by omega)]
 have e3 : n * 256 ||| b.toNat = n * 256 + b.toNat := by
  have h := Nat.shiftLeft_add_eq_or_of_lt (b := b.toNat) (i := 8) (by omega) n
  rw [Nat.shiftLeft_eq] at h
  exact h.symm
 rw [e3, i64w (by omega) (by omega)]
theorem valN_lt : ∀ (l : List UInt8) (n : Nat), valN n l < (n + 1) * 256 ^ l.length
 | [], n => by simp [valN]
 | b :: l, n => by
  have hb := b.toNat_lt
  have h := valN_lt l (n * 256 + b.toNat)
  have h2 : (n * 256 + b.toNat + 1) * 256 ^ l.length ≤ ((n + 1) * 256) * 256 ^ l.length := Nat.mul_le_mul_right _ (by omega)
  rw [List.length_cons, Nat.pow_succ, Nat.mul_comm (256 ^ l.length) 256, ← Nat.mul_assoc]
  exact Nat.lt_of_lt_of_le h h2
theorem number_eq (l : List UInt8) (hl : l.length ≤ 4) : wire_number.f l = some ((valN 0 l : Nat) : Int) := by
 have go : ∀ (m k n : Nat), l.length - k = m → k ≤ l.length → n < 256 ^ k → wire_number.l0 l (l.length : Int) (n : Int) (k : Int) = some ((valN n (l.drop k) : Nat) : Int) := by
  intro m
  induction m with
  | zero =>
   intro k n hm hk hn
   obtain rfl : k = l.length := by omega
   refine loopX_done ?_
   simp only [wire_number.s0, cb_dec]
   rw [if_neg (by omega), List.drop_length]
   rfl
  | succ m ih =>
   intro k n hm hk hn
   have hlt : k < l.length := by omega
   have hb := (l[k]).toNat_lt
   have hp : (256 : Nat) ^ k ≤ 256 ^ 3 := Nat.pow_le_pow_right (by omega) (by omega)
   have hn2 : n * 256 + (l[k]).toNat < 256 ^ (k + 1) := by
    rw [Nat.pow_succ]; omega
   rw [List.drop_eq_getElem_cons hlt]
   refine (loopX_next ?_).trans (ih (k + 1) (n * 256 + (l[k]).toNat) (by omega) (by omega) hn2)
   simp only [wire_number.s0, cb_dec, rd_lt hlt]
   rw [if_pos (by omega), ck_pos (by omega), ck_in (by omega) (by omega), or_step n l[k] (by omega)]
   rfl
 unfold wire_number.f
 simp only
 have := go l.length 0 0 (by omega) (by omega) (by simp)
 rw [show ((0 : Nat) : Int) = 0 from rfl] at this
 rw [this, ob_s, List.drop_zero]
theorem valueOf_eq : ref8_valueOf.f = wire_number.f := rfl
def chkF (dg : Bool) (k p s n : Int) : Int :=
 if ¬ (1 ≤ k ∧ k ≤ 6) then 4 else if dg = false then 3 else if ¬ (0 ≤ p ∧ p ≤ 2000000) then 1 else if ¬ (0 ≤ s ∧ s ≤ 2000000) then 1 else if 65536 < n then 2
 else if (p ≠ 0 ∧ ¬ (k = 2 ∨ k = 3)) ∨ (s ≠ 0 ∧ k ≠ 1) ∨ ¬ (k = 2 ↔ 0 < n) then 3 else 0
theorem chk_eq {m : Msg} {n : Int} {dg : Bool} (hd : blob_IsDigest.f m.2.1 = some dg) : wire_checkMessage.f m n = some (chkF dg m.1 m.2.2.1 m.2.2.2.1 n) := by
 obtain ⟨k, d, p, s, b⟩ := m
 simp only at hd ⊢
 unfold wire_checkMessage.f chkF
 simp only [within_eq, hd, ob_s, cb_not, cb_if, decide_eq_true_eq, beq_iff_eq, decide_eq_decide]
 cases dg
 ·by_cases h1 : 1 ≤ k ∧ k ≤ 6 <;> simp [h1]
 ·by_cases h1 : 1 ≤ k ∧ k ≤ 6
  ·by_cases h3 : 0 ≤ p ∧ p ≤ 2000000
   ·by_cases h4 : 0 ≤ s ∧ s ≤ 2000000
    ·by_cases h5 : 65536 < n
     ·simp [h1, h3, h4, h5]
     ·simp only [h1, h3, h4, h5, not_true_eq_false, and_self, if_true, if_false]
      by_cases h6 : k = 2
      ·subst h6
       by_cases h7 : s = 0 <;> by_cases h8 : 0 < n <;> simp [h7, h8]
      ·by_cases h7 : k = 3
       ·subst h7
        by_cases h8 : s = 0 <;> by_cases h9 : 0 < n <;> simp [h8, h9]
       ·by_cases h8 : k = 1
        ·subst h8
         by_cases h9 : p = 0 <;> by_cases h10 : 0 < n <;> simp [h9, h10]
        ·by_cases h9 : p = 0 <;> by_cases h10 : 0 < n <;> by_cases h11 : s = 0 <;> simp [h6, h7, h8, h9, h10, h11]
    ·simp [h1, h3, h4]
   ·simp [h1, h3]
  ·simp [h1]
theorem chk8_eq {m : Msg} {dg : Bool} (hd : blob_IsDigest.f m.2.1 = some dg) : ref8_checkMessage.f m = some (chkF dg m.1 m.2.2.1 m.2.2.2.1 (m.2.2.2.2.length : Int)) := by
 obtain ⟨k, d, p, s, b⟩ := m
 have hd8 : ref8_isDigest.f d = some dg := hd
 simp only at hd ⊢
 unfold ref8_checkMessage.f chkF ref8_hasFrom.f
 simp only [within8_eq, hd8, ob_s, cb_not, cb_if, decide_eq_true_eq, beq_iff_eq, decide_eq_decide]
 generalize (b.length : Int) = n
 cases dg
 ·by_cases h1 : 1 ≤ k ∧ k ≤ 6 <;> simp [h1]
 ·by_cases h1 : 1 ≤ k ∧ k ≤ 6
  ·by_cases h3 : 0 ≤ p ∧ p ≤ 2000000
   ·by_cases h4 : 0 ≤ s ∧ s ≤ 2000000
    ·by_cases h5 : 65536 < n
     ·simp [h1, h3, h4, h5]
     ·simp only [h1, h3, h4, h5, not_true_eq_false, and_self, if_true, if_false]
      by_cases h6 : k = 2
      ·subst h6
       by_cases h9 : p = 0 <;> by_cases h7 : s = 0 <;> by_cases h8 : 0 < n <;> simp [h7, h8, h9, ob_s]
      ·by_cases h7 : k = 3
       ·subst h7
        by_cases h10 : p = 0 <;> by_cases h8 : s = 0 <;> by_cases h9 : 0 < n <;> simp [h8, h9, h10, ob_s]
       ·by_cases h8 : k = 1
        ·subst h8
         by_cases h9 : p = 0 <;> by_cases h10 : 0 < n <;> by_cases h11 : s = 0 <;> simp [h9, h10, h11, ob_s]
        ·by_cases h9 : p = 0 <;> by_cases h10 : 0 < n <;> by_cases h11 : s = 0 <;> simp [h6, h7, h8, h9, h10, h11, ob_s]
    ·simp [h1, h3, h4]
   ·simp [h1, h3]
  ·simp [h1]
end Go.Proofs.YtpeiomhgaembaaaDoor
set_option linter.unusedVariables false
set_option linter.unusedSimpArgs false
namespace Go.Proofs.YtpeiomhgaembaaaDoor
open Go Go.Proofs.YtpeiomhgaembaaaDoor.Eng
theorem grow_eq (n : Int) (h0 : 0 ≤ n) (h1 : n ≤ 100000000000) : slices_Grow_byte_byte_n0_o.f () n = some [] := by
 unfold slices_Grow_byte_byte_n0_o.f
 simp only [cb_dec]
 rw [if_neg (by omega), ck_in (by omega) (by omega), ck_in (by omega) (by omega)]
 by_cases h : 0 < n - (0 - 0)
 ·rw [if_pos h, ck_pos (by omega), ck_pos (by omega), ck_pos (by simp only [List.length_replicate]; omega), ck_pos (by simp only [List.length_replicate]; omega)]
  simp
 ·rw [if_neg h]
theorem concat_eq (a b : List UInt8) (h : a.length + b.length ≤ 10000000000) : slices_Concat_byte_byte.f [a, b] = some (a ++ b) := by
 have l0 : slices_Concat_byte_byte.l0 [a, b] 2 0 0 = some ((a.length : Int) + b.length) := by
  refine (loopX_next (x' := ((a.length : Int), 1)) ?_).trans ((loopX_next (x' := ((a.length : Int) + b.length, 2)) ?_).trans (loopX_done ?_))
  ·simp only [slices_Concat_byte_byte.s0, cb_dec]
   have e : rd ([] : List UInt8) [a, b] 0 = a := rfl
   rw [if_pos (by omega), ck_pos (by simp), e, ck_in (by omega) (by omega), if_neg (by omega), ck_in (by omega) (by omega)]
   simp
  ·simp only [slices_Concat_byte_byte.s0, cb_dec]
   have e : rd ([] : List UInt8) [a, b] 1 = b := rfl
   rw [if_pos (by omega), ck_pos (by simp), e, ck_in (by omega) (by omega), if_neg (by omega), ck_in (by omega) (by omega)]
   simp
  ·simp only [slices_Concat_byte_byte.s0, cb_dec]
   rw [if_neg (by omega)]
 have l1 : slices_Concat_byte_byte.l1 [a, b] 2 0 [] = some (a ++ b) := by
  refine (loopX_next (x' := (1, a)) ?_).trans ((loopX_next (x' := (2, a ++ b)) ?_).trans (loopX_done ?_))
  ·simp only [slices_Concat_byte_byte.s1, cb_dec]
   have e : rd ([] : List UInt8) [a, b] 0 = a := rfl
   rw [if_pos (by omega), ck_pos (by simp), e, ck_pos (by simp; omega), ck_in (by omega) (by omega)]
   simp
  ·simp only [slices_Concat_byte_byte.s1, cb_dec]
   have e : rd ([] : List UInt8) [a, b] 1 = b := rfl
   rw [if_pos (by omega), ck_pos (by simp), e, ck_pos (by omega), ck_in (by omega) (by omega)]
   simp
  ·simp only [slices_Concat_byte_byte.s1, cb_dec]
   rw [if_neg (by omega)]
 unfold slices_Concat_byte_byte.f
 show ob (slices_Concat_byte_byte.l0 [a, b] 2 0 0) _ = _
 rw [l0, ob_s, grow_eq _ (by omega) (by omega), ob_s]
 show ob (slices_Concat_byte_byte.l1 [a, b] 2 0 []) _ = _
 rw [l1, ob_s]
def hK (y : List UInt8) : Int := ((UInt8.toNat (rd 0 y 0) : Nat) : Int)
def hD (y : List UInt8) : ByteArray := bstr (List.drop 1 (List.take 17 y))
def hN (y : List UInt8) : Nat := valN 0 (List.drop 17 (List.take 21 y))
def hM (y : List UInt8) : Nat := valN 0 (List.drop 21 (List.take 24 y))
def hdM (y : List UInt8) : Msg := (hK y, (hD y, (if hK y = 1 then 0 else (hN y : Int), (if hK y = 1 then (hN y : Int) else 0, []))))
theorem hN_lt (y : List UInt8) : hN y < 4294967296 := by
 have h := valN_lt (List.drop 17 (List.take 21 y)) 0
 have hp : (256 : Nat) ^ (List.drop 17 (List.take 21 y)).length ≤ 256 ^ 4 := Nat.pow_le_pow_right (by omega) (by rw [List.length_drop, List.length_take]; omega)
 unfold hN; omega
theorem hM_lt (y : List UInt8) : hM y < 16777216 := by
 have h := valN_lt (List.drop 21 (List.take 24 y)) 0
 have hp : (256 : Nat) ^ (List.drop 21 (List.take 24 y)).length ≤ 256 ^ 3 := Nat.pow_le_pow_right (by omega) (by rw [List.length_drop, List.length_take]; omega)
 unfold hM; omega
theorem nums (y : List UInt8) : wire_number.f (List.drop 17 (List.take 21 y)) = some ((hN y : Nat) : Int) ∧ wire_number.f (List.drop 21 (List.take 24 y)) = some ((hM y : Nat) : Int) :=
 ⟨number_eq _ (by rw [List.length_drop, List.length_take]; omega), number_eq _ (by rw [List.length_drop, List.length_take]; omega)⟩
theorem head_eq {y : List UInt8} (hl : 24 ≤ y.length) : wire_head.f y = some (hdM y, (hM y : Int)) := by
 obtain ⟨n1, n2⟩ := nums y
 have e17 : Int.toNat (17 : Int) = 17 := rfl
 have e21 : Int.toNat (21 : Int) = 21 := rfl
 have e24 : Int.toNat (24 : Int) = 24 := rfl
 have e1 : Int.toNat (1 : Int) = 1 := rfl
 unfold wire_head.f
 simp only [dup_eq, e17, e21, e24, e1, n1, n2, ob_s, cb_dec]
 rw [ck_pos (by omega), ck_pos (by omega), ck_pos (by omega), ck_pos (by omega)]
 by_cases hk : ((UInt8.toNat (rd 0 y 0) : Nat) : Int) = 1
 ·rw [if_pos hk]; simp [hdM, hK, hk, hD]
 ·rw [if_neg hk, ck_pos (by omega)]; simp [hdM, hK, hk, hD]
theorem chk_min (b : Bool) (k p s n : Int) (hn : 0 ≤ n) : chkF b k p s (min n 65537) = chkF b k p s n := by
 unfold chkF
 have h1 : (65536 < min n 65537) = (65536 < n) := by apply propext; omega
 have h2 : (0 < min n 65537) = (0 < n) := by apply propext; omega
 simp only [h1, h2]
theorem headOf_eq {y : List UInt8} (hl : 24 ≤ y.length) {dg : Bool} (hd : blob_IsDigest.f (hD y) = some dg) :
  ref8_headOf.f y = some (hdM y, (hM y : Int), chkF dg (hK y) (hdM y).2.2.1 (hdM y).2.2.2.1 (hM y : Int)) := by
 obtain ⟨n1, n2⟩ := nums y
 have hm := hM_lt y
 have e17 : Int.toNat (17 : Int) = 17 := rfl
 have e21 : Int.toNat (21 : Int) = 21 := rfl
 have e24 : Int.toNat (24 : Int) = 24 := rfl
 have e1 : Int.toNat (1 : Int) = 1 := rfl
 unfold ref8_headOf.f
 simp only [dup_eq, mix_eq, e17, e21, e24, e1, valueOf_eq, n1, n2, ob_s, cb_dec]
 have hrep : (((List.replicate (Int.toNat (min ((hM y : Nat) : Int) 65537)) (0 : UInt8)).length : Nat) : Int) = min ((hM y : Nat) : Int) 65537 := by rw [List.length_replicate]; omega
 have hc : ∀ p s : Int, ref8_checkMessage.f (((UInt8.toNat (rd 0 y 0) : Nat) : Int), (bstr (List.drop 1 (List.take 17 y)), (p, (s, List.replicate (Int.toNat (min ((hM y : Nat) : Int) 65537)) (0 : UInt8))))) = some (chkF dg (hK y) p s (hM y : Int)) := fun p s => by
  rw [chk8_eq (m := (((UInt8.toNat (rd 0 y 0) : Nat) : Int), (bstr (List.drop 1 (List.take 17 y)), (p, (s, List.replicate (Int.toNat (min ((hM y : Nat) : Int) 65537)) (0 : UInt8)))))) hd]
  simp only [hrep]
  rw [chk_min _ _ _ _ _ (by omega)]
  rfl
 rw [ck_pos (by omega), ck_pos (by omega), ck_pos (by omega), ck_pos (by omega)]
 by_cases hk : ((UInt8.toNat (rd 0 y 0) : Nat) : Int) = 1
 ·rw [if_pos hk, ck_pos (by omega), hc, ob_s]; simp [hdM, hK, hk, hD]
 ·rw [if_neg hk, ck_pos (by omega), hc, ob_s]; simp [hdM, hK, hk, hD]
def goodF (L : Nat) : ((List Msg × (List UInt8 × (Int × Int))) ⊕ (Int × List Msg)) → Prop
 | .inl t => t.1 = [] ∧ t.2.1 = []
 | .inr q => 0 ≤ q.1 ∧ q.1 ≤ (L : Int) ∧ q.2.length ≤ 20000 ∧ ∀ m ∈ q.2, m.2.2.2.2.length ≤ L
theorem feedLoop (v : List UInt8) (hv : v.length ≤ 10000000) : ∀ (n k : Nat) (o : List Msg), v.length - k ≤ n → k ≤ v.length → o.length ≤ 20000 → (∀ m ∈ o, m.2.2.2.2.length ≤ v.length) →
  ∃ r, wire_Feed.l0 v (k : Int) o = some r ∧ ref8_Feed.l0 v (k : Int) o = some r ∧ goodF v.length r := by
 intro n
 induction n with
 | zero =>
  intro k o hn hk ho hb
  refine ⟨.inr ((k : Int), o), loopX_done ?_, loopX_done ?_, by simp only [goodF]; exact ⟨by omega, by omega, ho, hb⟩⟩
  ·simp only [wire_Feed.s0, cb_dec]; rw [if_neg (by omega)]
  ·simp only [ref8_Feed.s0, cb_dec]; rw [if_neg (by omega)]
 | succ n ih =>
  intro k o hn hk ho hb
  by_cases hlt : k < v.length
  ·have ek : Int.toNat (k : Int) = k := by omega
   have hdl : (List.drop k v).length = v.length - k := List.length_drop
   have hrd0 : rd (0 : UInt8) (List.drop k v) 0 = rd (0 : UInt8) v (k : Int) := by
    rw [rd_lt hlt, show (0 : Int) = ((0 : Nat) : Int) from rfl, rd_lt (by omega)]
    simp
   by_cases hfull : o.length = 20000
   ·refine ⟨.inl ([], [], (k : Int), 16), loopX_done ?_, loopX_done ?_, ⟨rfl, rfl⟩⟩
    ·simp only [wire_Feed.s0, cb_dec]
     rw [if_pos (by omega), if_pos (by omega)]
    ·simp only [ref8_Feed.s0, cb_dec]
     rw [if_pos (by omega), ck_pos (by omega), if_pos (by omega)]
   ·by_cases hkind : 1 ≤ ((UInt8.toNat (rd (0 : UInt8) v (k : Int)) : Nat) : Int) ∧ ((UInt8.toNat (rd (0 : UInt8) v (k : Int)) : Nat) : Int) ≤ 6
    ·by_cases hshort : v.length - k < 24
     ·refine ⟨.inr ((k : Int), o), loopX_done ?_, loopX_done ?_, by simp only [goodF]; exact ⟨by omega, by omega, ho, hb⟩⟩
      ·simp only [wire_Feed.s0, cb_dec, cb_not, within_eq, ob_s]
       rw [if_pos (by omega), if_neg (by omega), ck_pos (by omega), if_pos hkind, ck_in (by omega) (by omega), if_pos (by omega)]
      ·simp only [ref8_Feed.s0, cb_dec, cb_not, within8_eq, ob_s, ek, hrd0, hdl]
       rw [if_pos (by omega), ck_pos (by omega), if_neg (by omega), ck_pos (by omega), if_pos hkind, if_pos (by omega)]
     ·obtain ⟨dg, hd⟩ := isDigest_eq (hD (List.drop k v))
      have hl24 : 24 ≤ (List.drop k v).length := by omega
      have h1 := head_eq hl24
      have h2 := headOf_eq hl24 hd
      have h3 : wire_checkMessage.f (hdM (List.drop k v)) (hM (List.drop k v) : Int) = some (chkF dg (hK (List.drop k v)) (hdM (List.drop k v)).2.2.1 (hdM (List.drop k v)).2.2.2.1 (hM (List.drop k v) : Int)) := chk_eq (m := hdM (List.drop k v)) hd
      have hm := hM_lt (List.drop k v)
      have hmb : (hdM (List.drop k v)).2.2.2.2 = [] := rfl
      by_cases hf : chkF dg (hK (List.drop k v)) (hdM (List.drop k v)).2.2.1 (hdM (List.drop k v)).2.2.2.1 (hM (List.drop k v) : Int) = 0
      ·by_cases hend : v.length < k + 24 + hM (List.drop k v)
       ·refine ⟨.inr ((k : Int), o), loopX_done ?_, loopX_done ?_, by simp only [goodF]; exact ⟨by omega, by omega, ho, hb⟩⟩
        ·simp only [wire_Feed.s0, cb_dec, cb_not, within_eq, ob_s, ek, h1, h3]
         rw [if_pos (by omega), if_neg (by omega), ck_pos (by omega), if_pos hkind, ck_in (by omega) (by omega), if_neg (by omega), ck_pos (by omega), if_pos hf, ck_in (by omega) (by omega), ck_in (by omega) (by omega), if_pos (by omega)]
        ·simp only [ref8_Feed.s0, cb_dec, cb_not, within8_eq, ob_s, ek, hrd0, hdl, h2]
         rw [if_pos (by omega), ck_pos (by omega), if_neg (by omega), ck_pos (by omega), if_pos hkind, if_neg (by omega), if_pos hf, ck_in (by omega) (by omega), if_pos (by omega)]
       ·have e24 : Int.toNat ((k : Int) + 24) = k + 24 := by omega
        have eE : Int.toNat ((k : Int) + 24 + (hM (List.drop k v) : Int)) = k + 24 + hM (List.drop k v) := by omega
        have e24' : Int.toNat (24 : Int) = 24 := rfl
        have eE' : Int.toNat ((24 : Int) + (hM (List.drop k v) : Int)) = 24 + hM (List.drop k v) := by omega
        let body : List UInt8 := List.drop (k + 24) (List.take (k + 24 + hM (List.drop k v)) v)
        have hbl : body.length = hM (List.drop k v) := by
         show (List.drop (k + 24) (List.take (k + 24 + hM (List.drop k v)) v)).length = _
         rw [List.length_drop, List.length_take]; omega
        have hbody : List.drop 24 (List.take (24 + hM (List.drop k v)) (List.drop k v)) = body := by
         show _ = List.drop (k + 24) (List.take (k + 24 + hM (List.drop k v)) v)
         rw [List.take_drop, List.drop_drop]
         congr 2; omega
        have hcl : slices_Clone_byte_byte.f body = some body := cloneB (by omega)
        let msg : Msg := ((hdM (List.drop k v)).1, ((hdM (List.drop k v)).2.1, ((hdM (List.drop k v)).2.2.1, ((hdM (List.drop k v)).2.2.2.1, body))))
        have hlen : (List.length o + List.length ([msg] : List Msg)) * 64 ≤ 140737488355328 := by simp; omega
        obtain ⟨r, h4, h5, h6⟩ := ih (k + 24 + hM (List.drop k v)) (o ++ [msg]) (by omega) (by omega) (by simp; omega) (by
         intro m hm'
         rcases List.mem_append.1 hm' with h | h
         ·exact hb m h
         ·rw [List.mem_singleton.1 h]
          show body.length ≤ _
          omega)
        have ecast : ((k + 24 + hM (List.drop k v) : Nat) : Int) = (k : Int) + 24 + (hM (List.drop k v) : Int) := by omega
        refine ⟨r, (loopX_next (x' := ((k : Int) + 24 + (hM (List.drop k v) : Int), o ++ [msg])) ?_).trans (ecast ▸ h4), (loopX_next (x' := ((k : Int) + 24 + (hM (List.drop k v) : Int), o ++ [msg])) ?_).trans (ecast ▸ h5), h6⟩
        ·simp only [wire_Feed.s0, cb_dec, cb_not, within_eq, ob_s, ek, h1, h3]
         rw [if_pos (by omega), if_neg (by omega), ck_pos (by omega), if_pos hkind, ck_in (by omega) (by omega), if_neg (by omega), ck_pos (by omega), if_pos hf, ck_in (by omega) (by omega), ck_in (by omega) (by omega), if_neg (by omega)]
         by_cases hz : (0 : Int) < (hM (List.drop k v) : Int)
         ·rw [if_pos hz, ck_in (by omega) (by omega), ck_pos (by omega)]
          simp only [e24, eE]
          show ob (slices_Clone_byte_byte.f body) _ = _
          rw [hcl, ob_s, ck_pos hlen]
         ·rw [if_neg hz, ck_pos (by simp; omega)]
          have hb0 : body = [] := List.eq_nil_of_length_eq_zero (by omega)
          have : msg = hdM (List.drop k v) := by
           show ((hdM (List.drop k v)).1, ((hdM (List.drop k v)).2.1, ((hdM (List.drop k v)).2.2.1, ((hdM (List.drop k v)).2.2.2.1, body)))) = _
           rw [hb0]; rfl
          rw [this]
        ·simp only [ref8_Feed.s0, cb_dec, cb_not, within8_eq, ob_s, ek, hrd0, hdl, h2, e24', eE']
         rw [if_pos (by omega), ck_pos (by omega), if_neg (by omega), ck_pos (by omega), if_pos hkind, if_neg (by omega), if_pos hf, ck_in (by omega) (by omega), if_neg (by omega), ck_in (by omega) (by omega), ck_pos (by omega), hbody]
         show ob (slices_Clone_byte_byte.f body) _ = _
         rw [hcl, ob_s, ck_pos hlen, ck_in (by omega) (by omega), ck_in (by omega) (by omega)]
      ·refine ⟨.inl ([], [], (k : Int), chkF dg (hK (List.drop k v)) (hdM (List.drop k v)).2.2.1 (hdM (List.drop k v)).2.2.2.1 (hM (List.drop k v) : Int)), loopX_done ?_, loopX_done ?_, ⟨rfl, rfl⟩⟩
       ·simp only [wire_Feed.s0, cb_dec, cb_not, within_eq, ob_s, ek, h1, h3]
        rw [if_pos (by omega), if_neg (by omega), ck_pos (by omega), if_pos hkind, ck_in (by omega) (by omega), if_neg (by omega), ck_pos (by omega), if_neg hf]
       ·simp only [ref8_Feed.s0, cb_dec, cb_not, within8_eq, ob_s, ek, hrd0, hdl, h2]
        rw [if_pos (by omega), ck_pos (by omega), if_neg (by omega), ck_pos (by omega), if_pos hkind, if_neg (by omega), if_neg hf]
    ·refine ⟨.inl ([], [], (k : Int), 4), loopX_done ?_, loopX_done ?_, ⟨rfl, rfl⟩⟩
     ·simp only [wire_Feed.s0, cb_dec, cb_not, within_eq, ob_s]
      rw [if_pos (by omega), if_neg (by omega), ck_pos (by omega), if_neg hkind]
     ·simp only [ref8_Feed.s0, cb_dec, cb_not, within8_eq, ob_s, ek, hrd0, hdl]
      rw [if_pos (by omega), ck_pos (by omega), if_neg (by omega), ck_pos (by omega), if_neg hkind]
  ·refine ⟨.inr ((k : Int), o), loopX_done ?_, loopX_done ?_, by simp only [goodF]; exact ⟨by omega, by omega, ho, hb⟩⟩
   ·simp only [wire_Feed.s0, cb_dec]; rw [if_neg (by omega)]
   ·simp only [ref8_Feed.s0, cb_dec]; rw [if_neg (by omega)]
end Go.Proofs.YtpeiomhgaembaaaDoor
set_option linter.unusedVariables false
set_option linter.unusedSimpArgs false
namespace Go.Proofs.YtpeiomhgaembaaaDoor
open Go Go.Proofs.YtpeiomhgaembaaaDoor.Eng
theorem msgLoop (d : ByteArray) (b : List UInt8) (most : Int) (hb : b.length ≤ 100000) (hm : 1 ≤ most ∧ most ≤ 65536) :
  ∀ (n k : Nat) (o : List Msg), b.length + 65536 - k ≤ n → k ≤ b.length + 65536 → o.length ≤ k + 1 → (∀ m ∈ o, m.2.2.2.2.length ≤ 100000) →
   ∃ o', wire_Messages.l0 d b most (k : Int) o = some o' ∧ ref8_messages.l0 d b most (k : Int) o = some o' ∧ o'.length ≤ 200000 ∧ ∀ m ∈ o', m.2.2.2.2.length ≤ 100000 := by
 intro n
 induction n with
 | zero =>
  intro k o hn hk ho hbs
  refine ⟨o, loopX_done ?_, loopX_done ?_, by omega, hbs⟩
  ·simp only [wire_Messages.s0, cb_dec]
   rw [if_neg (by omega)]
  ·simp only [ref8_messages.s0, cb_dec]
   rw [if_neg (by omega)]
 | succ n ih =>
  intro k o hn hk ho hbs
  by_cases hlt : k < b.length
  ·obtain ⟨mn, hmn⟩ := Int.eq_ofNat_of_zero_le (show 0 ≤ most by omega)
   subst hmn
   let y : List UInt8 := List.drop k (List.take (Int.toNat (min ((k : Int) + (mn : Int)) (b.length : Int))) b)
   have hy : y.length ≤ 100000 := by
    show (List.drop k (List.take _ b)).length ≤ 100000
    rw [List.length_drop, List.length_take]; omega
   have ek : Int.toNat (k : Int) = k := by omega
   obtain ⟨o', h1, h2, h3, h4⟩ := ih (k + mn) (o ++ [((2 : Int), (d, ((k : Int), ((0 : Int), y))))]) (by omega) (by omega) (by simp; omega) (by
    intro m hm'
    rcases List.mem_append.1 hm' with h | h
    ·exact hbs m h
    ·rw [List.mem_singleton.1 h]; exact hy)
   have hlen : (List.length o + List.length ([((2 : Int), (d, ((k : Int), ((0 : Int), y))))] : List Msg)) * 64 ≤ 140737488355328 := by simp; omega
   have hcl : slices_Clone_byte_byte.f y = some y := cloneB (by omega)
   have hpos : 0 ≤ (k : Int) ∧ (k : Int) ≤ min ((k : Int) + (mn : Int)) (b.length : Int) ∧ min ((k : Int) + (mn : Int)) (b.length : Int) ≤ (b.length : Int) := by omega
   have hdf : wire_dataFrom.f d b (k : Int) (mn : Int) = some ((2 : Int), (d, ((k : Int), ((0 : Int), y)))) := by
    unfold wire_dataFrom.f
    rw [ck_in (by omega) (by omega)]
    simp only [ek]
    rw [ck_pos hpos]
    show ob (slices_Clone_byte_byte.f y) _ = _
    rw [hcl, ob_s]
   refine ⟨o', (loopX_next ?_).trans h1, (loopX_next ?_).trans h2, h3, h4⟩
   ·simp only [wire_Messages.s0, cb_dec, hdf, ob_s]
    rw [if_pos (by omega), ck_pos hlen, ck_in (by omega) (by omega)]
    simp
   ·simp only [ref8_messages.s0, cb_dec, ek]
    rw [if_pos (by omega), ck_in (by omega) (by omega), ck_pos hpos]
    show ob (slices_Clone_byte_byte.f y) _ = _
    rw [hcl, ob_s, ck_pos hlen, ck_in (by omega) (by omega)]
    simp
  ·refine ⟨o, loopX_done ?_, loopX_done ?_, by omega, hbs⟩
   ·simp only [wire_Messages.s0, cb_dec]
    rw [if_neg (by omega)]
   ·simp only [ref8_messages.s0, cb_dec]
    rw [if_neg (by omega)]
theorem sameMsg (m : Msg) (h : m.2.2.2.2.length ≤ 1000000000000000) : ref8_SameMessage.f m m = some true := by
 unfold ref8_SameMessage.f
 simp only [decide_true, cb_t, equalB h, ob_s]
theorem sameMsgs (l : List Msg) (hl : l.length ≤ 1000000000000000) (h : ∀ m ∈ l, m.2.2.2.2.length ≤ 1000000000000000) : ref8_SameMessages.f l l = some true := by
 have go : ∀ (n k : Nat), l.length - k = n → k ≤ l.length → ref8_SameMessages.l0 l l (l.length : Int) (k : Int) = some (.inr ()) := by
  intro n
  induction n with
  | zero =>
   intro k hn hk
   refine loopX_done ?_
   simp only [ref8_SameMessages.s0, cb_dec]
   rw [if_neg (by omega)]
  | succ n ih =>
   intro k hn hk
   have hlt : k < l.length := by omega
   refine (loopX_next ?_).trans (ih (k + 1) (by omega) (by omega))
   simp only [ref8_SameMessages.s0, cb_dec, cb_not, rd_lt hlt, sameMsg _ (h _ (List.getElem_mem hlt)), ob_s, cb_t]
   rw [if_pos (by omega), ck_pos (by omega), ck_pos (by omega), ck_in (by omega) (by omega)]
   rfl
 unfold ref8_SameMessages.f
 have := go l.length 0 (by omega) (by omega)
 rw [show ((0 : Nat) : Int) = 0 from rfl] at this
 simp only [decide_true, Bool.not_true, cb_f, this, ob_s, caseS_r]
theorem messages_same (d : ByteArray) (b : List UInt8) (p most : Int) :
  ∃ r, wire_Messages.f d b p most = some r ∧ ref8_Messages.f d b p most = some r ∧ r.1.length ≤ 200000 ∧ ∀ m ∈ r.1, m.2.2.2.2.length ≤ 100000 := by
 obtain ⟨q, hq⟩ := isDigest_eq d
 have h8 : ref8_isDigest.f d = some q := hq
 unfold wire_Messages.f ref8_Messages.f wire_checkContent.f
 simp only [hq, h8, ob_s, cb_not]
 cases q with
 | false =>
  simp only [cb_f, ob_s, cb_dec]
  exact ⟨_, by rw [if_neg (by decide)], rfl, by simp, fun m h => by cases h⟩
 | true =>
  simp only [cb_t, cb_dec]
  by_cases h1 : (100000 : Int) < (b.length : Int)
  ·rw [if_pos h1, if_pos h1, ob_s, if_neg (by decide)]
   exact ⟨_, rfl, rfl, by simp, fun m h => by cases h⟩
  ·rw [if_neg h1, if_neg h1, ob_s, if_pos rfl]
   simp only [within_eq, within8_eq, ob_s, cb_dec]
   by_cases h2 : 0 ≤ p ∧ p ≤ (b.length : Int)
   ·rw [if_pos h2, if_pos h2]
    by_cases h3 : 1 ≤ most ∧ most ≤ 65536
    ·rw [if_pos h3, if_pos h3]
     obtain ⟨k, rfl⟩ := Int.eq_ofNat_of_zero_le h2.1
     obtain ⟨o', h4, h5, h6, h7⟩ := msgLoop d b most (by omega) h3 (b.length + 65536 - k) k [((1 : Int), (d, ((0 : Int), ((b.length : Int), ([] : List UInt8)))))] (by omega) (by omega) (by simp) (by simp)
     refine ⟨(o', 0), ?_, ?_, h6, h7⟩
     ·rw [h4, ob_s]
     ·unfold ref8_messages.f
      simp only
      rw [h5, ob_s, ob_s]
    ·rw [if_neg h3, if_neg h3]
     exact ⟨_, rfl, rfl, by simp, fun m h => by cases h⟩
   ·rw [if_neg h2, if_neg h2]
    exact ⟨_, rfl, rfl, by simp, fun m h => by cases h⟩
theorem law_MM (d : ByteArray) (b : List UInt8) (p most : Int) (hb : b.length ≤ 140737488355328) : law8_WireMessagesMatchSpec.f d b p most = some true := by
 obtain ⟨r, h1, h2, h3, h4⟩ := messages_same d b p most
 unfold law8_WireMessagesMatchSpec.f
 rw [cloneB hb, ob_s, h1, ob_s, h2, ob_s]
 simp only [decide_true, cb_t, sameMsgs r.1 (by omega) (fun m hm => Nat.le_trans (h4 m hm) (by omega)), ob_s, equalB (show b.length ≤ 1000000000000000 by omega), awake_eq]
end Go.Proofs.YtpeiomhgaembaaaDoor
set_option linter.unusedVariables false
set_option linter.unusedSimpArgs false
namespace Go.Proofs.YtpeiomhgaembaaaDoor
open Go Go.Proofs.YtpeiomhgaembaaaDoor.Eng
theorem feed_same (a b : List UInt8) : ∃ r, wire_Feed.f a b = some r ∧ ref8_Feed.f a b = some r ∧ r.2.1.length ≤ 10000000 ∧ r.1.length ≤ 20000 ∧ ∀ m ∈ r.1, m.2.2.2.2.length ≤ 10000000 := by
 unfold wire_Feed.f ref8_Feed.f
 simp only [cb_dec]
 by_cases h1 : (65560 : Int) < (a.length : Int)
 ·rw [if_pos h1, if_pos h1]; exact ⟨_, rfl, rfl, by simp, by simp, fun m h => by cases h⟩
 ·rw [if_neg h1, if_neg h1]
  by_cases h2 : (2000000 : Int) < (b.length : Int)
  ·rw [if_pos h2, if_pos h2]; exact ⟨_, rfl, rfl, by simp, by simp, fun m h => by cases h⟩
  ·rw [if_neg h2, if_neg h2, concat_eq a b (by omega), ob_s, ob_s]
   have hlen : (a ++ b).length = a.length + b.length := List.length_append
   obtain ⟨r, h3, h4, h5⟩ := feedLoop (a ++ b) (by omega) (a ++ b).length 0 [] (by omega) (by omega) (by simp) (fun m h => by cases h)
   rw [show ((0 : Nat) : Int) = 0 from rfl] at h3 h4
   rw [h3, h4, ob_s]
   cases r with
   | inl t =>
    obtain ⟨e1, e2⟩ := h5
    simp only [caseS_l]
    exact ⟨_, rfl, rfl, by rw [e2]; simp, by rw [e1]; simp, by rw [e1]; exact fun m h => by cases h⟩
   | inr q =>
    obtain ⟨e1, e2, e3, e4⟩ := h5
    simp only [caseS_r]
    have hcl : slices_Clone_byte_byte.f (List.drop (Int.toNat q.1) (a ++ b)) = some (List.drop (Int.toNat q.1) (a ++ b)) := cloneB (by rw [List.length_drop]; omega)
    rw [ck_pos ⟨e1, e2⟩, hcl, ob_s]
    exact ⟨_, rfl, rfl, by simp only [List.length_drop]; omega, e3, fun m h => Nat.le_trans (e4 m h) (by omega)⟩
theorem law_FE (a b : List UInt8) (ha : a.length ≤ 140737488355328) (hb : b.length ≤ 140737488355328) : law8_WireFeedMatchesSpec.f a b = some true := by
 obtain ⟨r, h1, h2, h3, h4, h5⟩ := feed_same a b
 unfold law8_WireFeedMatchesSpec.f
 rw [cloneB ha, ob_s, cloneB hb, ob_s, h1, ob_s, h2, ob_s]
 simp only [decide_true, cb_t, sameMsgs r.1 (by omega) (fun m hm => Nat.le_trans (h5 m hm) (by omega)), equalB (show r.2.1.length ≤ 1000000000000000 by omega), equalB (show a.length ≤ 1000000000000000 by omega), equalB (show b.length ≤ 1000000000000000 by omega), ob_s, awake_eq]
end Go.Proofs.YtpeiomhgaembaaaDoor
set_option linter.unusedVariables false
set_option linter.unusedSimpArgs false
namespace Go.Proofs.YtpeiomhgaembaaaDoor
open Go Go.Proofs.YtpeiomhgaembaaaDoor.Eng
noncomputable def dgB (s : ByteArray) : Bool := (blob_IsDigest.f s).getD false
theorem dgB_eq (s : ByteArray) : blob_IsDigest.f s = some (dgB s) := by
 obtain ⟨b, h⟩ := isDigest_eq s
 unfold dgB; rw [h]; rfl
theorem dgB_size {s : ByteArray} (h : dgB s = true) : s.size = 16 := by
 unfold dgB blob_IsDigest.f at h
 simp only [cb_dec] at h
 by_cases h1 : (s.size : Int) = 16
 ·omega
 ·rw [if_neg h1] at h; cases h
noncomputable def msgF (m : Msg) : Int := chkF (dgB m.2.1) m.1 m.2.2.1 m.2.2.2.1 (m.2.2.2.2.length : Int)
theorem msgF_ok {m : Msg} (h : msgF m = 0) : (1 ≤ m.1 ∧ m.1 ≤ 6) ∧ dgB m.2.1 = true ∧ (0 ≤ m.2.2.1 ∧ m.2.2.1 ≤ 2000000) ∧ (0 ≤ m.2.2.2.1 ∧ m.2.2.2.1 ≤ 2000000) ∧ m.2.2.2.2.length ≤ 65536 ∧ (m.1 = 1 → m.2.2.1 = 0) ∧ (m.1 ≠ 1 → m.2.2.2.1 = 0) := by
 unfold msgF chkF at h
 split at h
 ·cases h
 ·rename_i h1
  split at h
  ·cases h
  ·rename_i h2
   split at h
   ·cases h
   ·rename_i h3
    split at h
    ·cases h
    ·rename_i h4
     split at h
     ·cases h
     ·rename_i h5
      split at h
      ·cases h
      ·rename_i h6
       simp only [not_or, not_and, Classical.not_not] at h1 h2 h3 h4 h6
       refine ⟨by omega, by simpa using h2, by omega, by omega, by omega, fun e => ?_, fun e => ?_⟩
       ·have := h6.1
        by_cases hp : m.2.2.1 = 0
        ·exact hp
        ·have := this hp; omega
       ·have := h6.2.1
        by_cases hs : m.2.2.2.1 = 0
        ·exact hs
        ·exact absurd (this hs) e
def by4 (n : Int) : List UInt8 := [UInt8.ofInt (IntKind.u8.wrap (Int.fdiv n (2 ^ min (Int.toNat (24 : Int)) (IntKind.bits .i64)))), UInt8.ofInt (IntKind.u8.wrap (Int.fdiv n (2 ^ min (Int.toNat (16 : Int)) (IntKind.bits .i64)))), UInt8.ofInt (IntKind.u8.wrap (Int.fdiv n (2 ^ min (Int.toNat (8 : Int)) (IntKind.bits .i64)))), UInt8.ofInt (IntKind.u8.wrap n)]
def by3 (n : Int) : List UInt8 := [UInt8.ofInt (IntKind.u8.wrap (Int.fdiv n (2 ^ min (Int.toNat (16 : Int)) (IntKind.bits .i64)))), UInt8.ofInt (IntKind.u8.wrap (Int.fdiv n (2 ^ min (Int.toNat (8 : Int)) (IntKind.bits .i64)))), UInt8.ofInt (IntKind.u8.wrap n)]
def enc (m : Msg) : List UInt8 := UInt8.ofInt (IntKind.u8.wrap m.1) :: (m.2.1.data.toList ++ (by4 (m.2.2.1 + m.2.2.2.1) ++ (by3 (m.2.2.2.2.length : Int) ++ m.2.2.2.2)))
theorem num4 (n : Int) : ref8_number.f n 4 = some (by4 n) := by
 have s0 : ∀ (x : Int) (o : List UInt8), 0 ≤ x → x < 4 → o.length = 4 → ref8_number.s0 n 4 4 x o = some (.inl (x + 1, List.set o (Int.toNat (4 - 1 - x)) (UInt8.ofInt (IntKind.u8.wrap (Int.fdiv n (2 ^ min (Int.toNat (8 * x)) (IntKind.bits .i64))))))) := by
  intro x o h1 h2 h3
  simp only [ref8_number.s0, cb_dec]
  rw [if_pos h2, ck_in (by omega) (by omega), ck_in (by omega) (by omega), ck_in (by omega) (by omega), ck_pos (by omega), ck_pos (by omega), ck_pos (by omega), ck_in (by omega) (by omega)]
 have hl : ref8_number.l0 n 4 4 0 (List.replicate 4 0) = some (by4 n) := by
  refine (loopX_next (s0 0 _ (by omega) (by omega) rfl)).trans ((loopX_next (s0 1 _ (by omega) (by omega) rfl)).trans ((loopX_next (s0 2 _ (by omega) (by omega) rfl)).trans ((loopX_next (s0 3 _ (by omega) (by omega) rfl)).trans (loopX_done ?_))))
  simp only [ref8_number.s0, cb_dec]
  rw [if_neg (by omega)]
  have e : Int.fdiv n (2 ^ min (Int.toNat (8 * 0)) (IntKind.bits .i64)) = n := by
   show Int.fdiv n (2 ^ 0) = n
   simp
  rw [e]; rfl
 unfold ref8_number.f
 rw [ck_pos (by omega)]
 show ob (ref8_number.l0 n 4 4 0 (List.replicate 4 0)) _ = _
 rw [hl, ob_s]
theorem num3 (n : Int) : ref8_number.f n 3 = some (by3 n) := by
 have s0 : ∀ (x : Int) (o : List UInt8), 0 ≤ x → x < 3 → o.length = 3 → ref8_number.s0 n 3 3 x o = some (.inl (x + 1, List.set o (Int.toNat (3 - 1 - x)) (UInt8.ofInt (IntKind.u8.wrap (Int.fdiv n (2 ^ min (Int.toNat (8 * x)) (IntKind.bits .i64))))))) := by
  intro x o h1 h2 h3
  simp only [ref8_number.s0, cb_dec]
  rw [if_pos h2, ck_in (by omega) (by omega), ck_in (by omega) (by omega), ck_in (by omega) (by omega), ck_pos (by omega), ck_pos (by omega), ck_pos (by omega), ck_in (by omega) (by omega)]
 have hl : ref8_number.l0 n 3 3 0 (List.replicate 3 0) = some (by3 n) := by
  refine (loopX_next (s0 0 _ (by omega) (by omega) rfl)).trans ((loopX_next (s0 1 _ (by omega) (by omega) rfl)).trans ((loopX_next (s0 2 _ (by omega) (by omega) rfl)).trans (loopX_done ?_)))
  simp only [ref8_number.s0, cb_dec]
  rw [if_neg (by omega)]
  have e : Int.fdiv n (2 ^ min (Int.toNat (8 * 0)) (IntKind.bits .i64)) = n := by
   show Int.fdiv n (2 ^ 0) = n
   simp
  rw [e]; rfl
 unfold ref8_number.f
 rw [ck_pos (by omega)]
 show ob (ref8_number.l0 n 3 3 0 (List.replicate 3 0)) _ = _
 rw [hl, ob_s]
noncomputable def firstF : List Msg → Int
 | [] => 0
 | m :: l => if msgF m = 0 then firstF l else msgF m
def faultR (f : Int) : (List UInt8 × Int) ⊕ Unit := if f = 0 then .inr () else .inl ([], f)
theorem check_loop (l : List Msg) (hl : l.length ≤ 20000) : ∀ (n k : Nat), l.length - k = n → k ≤ l.length → wire_Frames.l0 l (l.length : Int) (k : Int) = some (faultR (firstF (l.drop k))) ∧ ref8_Frames.l0 l (l.length : Int) (k : Int) = some (faultR (firstF (l.drop k))) := by
 intro n
 induction n with
 | zero =>
  intro k hn hk
  obtain rfl : k = l.length := by omega
  rw [List.drop_length]
  refine ⟨loopX_done ?_, loopX_done ?_⟩
  ·simp only [wire_Frames.s0, cb_dec]; rw [if_neg (by omega)]; rfl
  ·simp only [ref8_Frames.s0, cb_dec]; rw [if_neg (by omega)]; rfl
 | succ n ih =>
  intro k hn hk
  have hlt : k < l.length := by omega
  obtain ⟨h1, h2⟩ := ih (k + 1) (by omega) (by omega)
  rw [List.drop_eq_getElem_cons hlt]
  have c1 : wire_checkMessage.f l[k] (l[k].2.2.2.2.length : Int) = some (msgF l[k]) := chk_eq (dgB_eq _)
  have c2 : ref8_checkMessage.f l[k] = some (msgF l[k]) := chk8_eq (dgB_eq _)
  by_cases h : msgF l[k] = 0
  ·have e : firstF (l[k] :: l.drop (k + 1)) = firstF (l.drop (k + 1)) := by simp only [firstF]; rw [if_pos h]
   rw [e]
   refine ⟨(loopX_next (x' := ((k + 1 : Nat) : Int)) ?_).trans h1, (loopX_next (x' := ((k + 1 : Nat) : Int)) ?_).trans h2⟩
   ·simp only [wire_Frames.s0, cb_dec, cb_not, rd_lt hlt, c1, ob_s]
    rw [if_pos (by omega), ck_pos (by omega), if_pos h, ck_in (by omega) (by omega)]
    rfl
   ·simp only [ref8_Frames.s0, cb_dec, cb_not, rd_lt hlt, c2, ob_s]
    rw [if_pos (by omega), ck_pos (by omega), if_pos h, ck_in (by omega) (by omega)]
    rfl
  ·have e : firstF (l[k] :: l.drop (k + 1)) = msgF l[k] := by simp only [firstF]; rw [if_neg h]
   rw [e]
   have e2 : faultR (msgF l[k]) = .inl ([], msgF l[k]) := by unfold faultR; rw [if_neg h]
   rw [e2]
   refine ⟨loopX_done ?_, loopX_done ?_⟩
   ·simp only [wire_Frames.s0, cb_dec, cb_not, rd_lt hlt, c1, ob_s]
    rw [if_pos (by omega), ck_pos (by omega), if_neg h]
   ·simp only [ref8_Frames.s0, cb_dec, cb_not, rd_lt hlt, c2, ob_s]
    rw [if_pos (by omega), ck_pos (by omega), if_neg h]
theorem firstF_all : ∀ {l : List Msg}, firstF l = 0 → ∀ m ∈ l, msgF m = 0
 | [], _, m, hm => by cases hm
 | x :: l, h, m, hm => by
  simp only [firstF] at h
  by_cases hx : msgF x = 0
  ·rw [if_pos hx] at h
   rcases List.mem_cons.1 hm with rfl | hm
   ·exact hx
   ·exact firstF_all h m hm
  ·rw [if_neg hx] at h; exact absurd h hx
def encL (l : List Msg) : List UInt8 := l.flatMap enc
theorem enc_len {m : Msg} (h : msgF m = 0) : (enc m).length = 24 + m.2.2.2.2.length := by
 have h1 := dgB_size (msgF_ok h).2.1
 have h2 : m.2.1.data.toList.length = 16 := by rw [Array.length_toList]; exact h1
 simp only [enc, List.length_cons, List.length_append, h2, by4, by3, List.length_nil]; omega
theorem encL_len : ∀ {l : List Msg}, (∀ m ∈ l, msgF m = 0) → (encL l).length ≤ l.length * 65560
 | [], _ => by simp [encL]
 | m :: l, h => by
  have h1 := enc_len (h m (List.mem_cons_self ..))
  have h2 := (msgF_ok (h m (List.mem_cons_self ..))).2.2.2.2.1
  have h3 := encL_len (l := l) (fun x hx => h x (List.mem_cons_of_mem _ hx))
  simp only [encL, List.flatMap_cons, List.length_append, List.length_cons] at h3 ⊢
  omega
theorem write_loop (l : List Msg) (hl : l.length ≤ 20000) (hv : ∀ m ∈ l, msgF m = 0) : ∀ (n k : Nat) (o : List UInt8), l.length - k = n → k ≤ l.length → o.length ≤ k * 65560 →
  wire_Frames.l1 l (l.length : Int) (k : Int) o = some (o ++ encL (l.drop k)) ∧ ref8_Frames.l1 l (l.length : Int) (k : Int) o = some (o ++ encL (l.drop k)) := by
 intro n
 induction n with
 | zero =>
  intro k o hn hk ho
  obtain rfl : k = l.length := by omega
  rw [List.drop_length]
  refine ⟨loopX_done ?_, loopX_done ?_⟩
  ·simp only [wire_Frames.s1, cb_dec]; rw [if_neg (by omega)]; simp [encL]
  ·simp only [ref8_Frames.s1, cb_dec]; rw [if_neg (by omega)]; simp [encL]
 | succ n ih =>
  intro k o hn hk ho
  have hlt : k < l.length := by omega
  have hm := hv l[k] (List.getElem_mem hlt)
  obtain ⟨m1, m2, m3, m4, m5, m6, m7⟩ := msgF_ok hm
  have hds : l[k].2.1.data.toList.length = 16 := by rw [Array.length_toList]; exact dgB_size m2
  have hel := enc_len hm
  obtain ⟨h1, h2⟩ := ih (k + 1) (o ++ enc l[k]) (by omega) (by omega) (by rw [List.length_append]; omega)
  have e : o ++ encL (l.drop k) = o ++ enc l[k] ++ encL (l.drop (k + 1)) := by
   unfold encL
   rw [List.drop_eq_getElem_cons hlt, List.flatMap_cons, List.append_assoc]
  rw [e]
  refine ⟨(loopX_next (x' := (((k + 1 : Nat) : Int), o ++ enc l[k])) ?_).trans h1, (loopX_next (x' := (((k + 1 : Nat) : Int), o ++ enc l[k])) ?_).trans h2⟩
  ·simp only [wire_Frames.s1, cb_dec, mix_eq, rd_lt hlt]
   rw [if_pos (by omega), ck_pos (by omega), ck_pos (by simp; omega), ck_pos (by simp only [List.length_append, List.length_cons, List.length_nil, hds]; omega), ck_in (by omega) (by omega), ck_pos (by simp only [List.length_append, List.length_cons, List.length_nil, hds]; omega), ck_pos (by simp only [List.length_append, List.length_cons, List.length_nil, hds]; omega), ck_in (by omega) (by omega)]
   simp [enc, by4, by3]
  ·simp only [ref8_Frames.s1, cb_dec, mix_eq, rd_lt hlt, num4, num3, ob_s]
   rw [if_pos (by omega), ck_pos (by omega), ck_pos (by simp; omega), ck_pos (by simp only [List.length_append, List.length_cons, List.length_nil, hds]; omega), ck_in (by omega) (by omega), ck_pos (by simp only [List.length_append, List.length_cons, List.length_nil, hds, by4]; omega), ck_pos (by simp only [List.length_append, List.length_cons, List.length_nil, hds, by4, by3]; omega), ck_pos (by simp only [List.length_append, List.length_cons, List.length_nil, hds, by4, by3]; omega), ck_in (by omega) (by omega)]
   simp [enc]
noncomputable def framesR (l : List Msg) : List UInt8 × Int := if 20000 < l.length then ([], 2) else if firstF l = 0 then (encL l, 0) else ([], firstF l)
theorem frames_eq (l : List Msg) : wire_Frames.f l = some (framesR l) ∧ ref8_Frames.f l = some (framesR l) := by
 unfold wire_Frames.f ref8_Frames.f framesR
 simp only [cb_dec]
 by_cases h : 20000 < l.length
 ·have h' : (20000 : Int) < (l.length : Int) := by omega
  simp only [if_pos h', if_pos h]; exact ⟨trivial, trivial⟩
 ·have h' : ¬ (20000 : Int) < (l.length : Int) := by omega
  simp only [if_neg h', if_neg h]
  obtain ⟨h1, h2⟩ := check_loop l (by omega) l.length 0 (by omega) (by omega)
  rw [show ((0 : Nat) : Int) = 0 from rfl, List.drop_zero] at h1 h2
  rw [h1, h2]
  simp only [ob_s]
  by_cases hf : firstF l = 0
  ·have e : faultR (firstF l) = .inr () := by unfold faultR; rw [if_pos hf]
   rw [e, if_pos hf]
   simp only [caseS_r]
   obtain ⟨h3, h4⟩ := write_loop l (by omega) (firstF_all hf) l.length 0 [] (by omega) (by omega) (by simp)
   rw [show ((0 : Nat) : Int) = 0 from rfl, List.drop_zero, List.nil_append] at h3 h4
   rw [h3, h4]
   exact ⟨rfl, rfl⟩
  ·have e : faultR (firstF l) = .inl ([], firstF l) := by unfold faultR; rw [if_neg hf]
   rw [e, if_neg hf]
   exact ⟨rfl, rfl⟩
end Go.Proofs.YtpeiomhgaembaaaDoor
set_option linter.unusedVariables false
set_option linter.unusedSimpArgs false
namespace Go.Proofs.YtpeiomhgaembaaaDoor
open Go Go.Proofs.YtpeiomhgaembaaaDoor.Eng
theorem wrapU8 (z : Int) : IntKind.u8.wrap z = z % 256 := by
 simp only [IntKind.wrap, IntKind.bits, IntKind.signed, Bool.false_and, Bool.false_eq_true, if_false]
 have e : (2 : Int) ^ 8 = 256 := by decide
 rw [e]
theorem byteOf (n : Nat) : (UInt8.ofInt (IntKind.u8.wrap (n : Int))).toNat = n % 256 := by
 have h := u8_of (IntKind.u8.wrap (n : Int))
 rw [wrapU8, wrapU8] at h
 rw [wrapU8]
 omega
theorem fdivN (n : Nat) (c : Int) (d : Nat) (hc : c = (d : Int)) (hd : 0 < d) : Int.fdiv (n : Int) c = ((n / d : Nat) : Int) := by
 subst hc
 rw [Int.fdiv_eq_ediv_of_nonneg _ (by omega)]
 exact (Int.natCast_ediv n d).symm
theorem val4 (n : Nat) (h : n < 4294967296) : valN 0 (by4 (n : Int)) = n := by
 have e24 : (2 : Int) ^ min (Int.toNat (24 : Int)) (IntKind.bits .i64) = ((16777216 : Nat) : Int) := by decide
 have e16 : (2 : Int) ^ min (Int.toNat (16 : Int)) (IntKind.bits .i64) = ((65536 : Nat) : Int) := by decide
 have e8 : (2 : Int) ^ min (Int.toNat (8 : Int)) (IntKind.bits .i64) = ((256 : Nat) : Int) := by decide
 simp only [by4, valN, fdivN n _ _ e24 (by omega), fdivN n _ _ e16 (by omega), fdivN n _ _ e8 (by omega), byteOf]
 omega
theorem val3 (n : Nat) (h : n < 16777216) : valN 0 (by3 (n : Int)) = n := by
 have e16 : (2 : Int) ^ min (Int.toNat (16 : Int)) (IntKind.bits .i64) = ((65536 : Nat) : Int) := by decide
 have e8 : (2 : Int) ^ min (Int.toNat (8 : Int)) (IntKind.bits .i64) = ((256 : Nat) : Int) := by decide
 simp only [by3, valN, fdivN n _ _ e16 (by omega), fdivN n _ _ e8 (by omega), byteOf]
 omega
theorem head_enc {m : Msg} (hm : msgF m = 0) (t : List UInt8) : hdM (enc m ++ t) = (m.1, (m.2.1, (m.2.2.1, (m.2.2.2.1, [])))) ∧ hM (enc m ++ t) = m.2.2.2.2.length ∧ List.drop 24 (enc m ++ t) = m.2.2.2.2 ++ t := by
 obtain ⟨m1, m2, m3, m4, m5, m6, m7⟩ := msgF_ok hm
 have hds : m.2.1.data.toList.length = 16 := by rw [Array.length_toList]; exact dgB_size m2
 obtain ⟨a, ha⟩ : ∃ a, UInt8.ofInt (IntKind.u8.wrap m.1) = a := ⟨_, rfl⟩
 have hy : enc m ++ t = a :: (m.2.1.data.toList ++ (by4 (m.2.2.1 + m.2.2.2.1) ++ (by3 (m.2.2.2.2.length : Int) ++ (m.2.2.2.2 ++ t)))) := by
  simp [enc, ha]
 have l4 : (by4 (m.2.2.1 + m.2.2.2.1)).length = 4 := rfl
 have l3 : (by3 (m.2.2.2.2.length : Int)).length = 3 := rfl
 have d17 : List.drop 17 (enc m ++ t) = by4 (m.2.2.1 + m.2.2.2.1) ++ (by3 (m.2.2.2.2.length : Int) ++ (m.2.2.2.2 ++ t)) := by
  rw [hy, List.drop_succ_cons]; exact List.drop_left' hds
 have d21 : List.drop 21 (enc m ++ t) = by3 (m.2.2.2.2.length : Int) ++ (m.2.2.2.2 ++ t) := by
  have : List.drop 21 (enc m ++ t) = List.drop 4 (List.drop 17 (enc m ++ t)) := by rw [List.drop_drop]
  rw [this, d17]; exact List.drop_left' l4
 have d24 : List.drop 24 (enc m ++ t) = m.2.2.2.2 ++ t := by
  have : List.drop 24 (enc m ++ t) = List.drop 3 (List.drop 21 (enc m ++ t)) := by rw [List.drop_drop]
  rw [this, d21]; exact List.drop_left' l3
 have hKe : hK (enc m ++ t) = m.1 := by
  unfold hK
  have : rd (0 : UInt8) (enc m ++ t) 0 = a := by rw [hy]; rfl
  rw [this, ← ha]
  obtain ⟨k, hk⟩ := Int.eq_ofNat_of_zero_le (show 0 ≤ m.1 by omega)
  rw [hk, byteOf]; omega
 have hDe : hD (enc m ++ t) = m.2.1 := by
  unfold hD
  have : List.take 17 (enc m ++ t) = a :: m.2.1.data.toList := by
   rw [hy, List.take_succ_cons, List.take_left' hds]
  rw [this]
  show bstr m.2.1.data.toList = m.2.1
  unfold bstr; simp
 have hNe : (hN (enc m ++ t) : Int) = m.2.2.1 + m.2.2.2.1 := by
  unfold hN
  rw [List.drop_take, d17, List.take_left' l4]
  obtain ⟨q, hq⟩ := Int.eq_ofNat_of_zero_le (show 0 ≤ m.2.2.1 + m.2.2.2.1 by omega)
  rw [hq, val4 _ (by omega)]
 have hMe : hM (enc m ++ t) = m.2.2.2.2.length := by
  unfold hM
  rw [List.drop_take, d21, List.take_left' l3, val3 _ (by omega)]
 refine ⟨?_, hMe, d24⟩
 unfold hdM
 rw [hKe, hDe, hNe]
 by_cases h1 : m.1 = 1
 ·have := m6 h1
  rw [if_pos h1, if_pos h1, this, Int.zero_add]
 ·have := m7 h1
  rw [if_neg h1, if_neg h1, this, Int.add_zero]
theorem step_enc {v : List UInt8} (hv : v.length ≤ 10000000) {k : Nat} {o : List Msg} {m : Msg} {t : List UInt8} (hm : msgF m = 0) (hd : List.drop k v = enc m ++ t) (ho : o.length < 20000) :
  wire_Feed.l0 v (k : Int) o = wire_Feed.l0 v ((k + (enc m).length : Nat) : Int) (o ++ [m]) := by
 obtain ⟨e1, e2, e3⟩ := head_enc hm t
 have el := enc_len hm
 have hlen : v.length = k + (enc m).length + t.length := by
  have h1 : (List.drop k v).length = (enc m).length + t.length := by rw [hd, List.length_append]
  rw [List.length_drop] at h1
  omega
 have hlt : k < v.length := by omega
 have ek : Int.toNat (k : Int) = k := by omega
 have hl24 : 24 ≤ (List.drop k v).length := by rw [hd, List.length_append]; omega
 have h1 := head_eq hl24
 rw [hd, e1, e2] at h1
 have h3 : wire_checkMessage.f (m.1, (m.2.1, (m.2.2.1, (m.2.2.2.1, [])))) (m.2.2.2.2.length : Int) = some 0 := by
  rw [chk_eq (m := (m.1, (m.2.1, (m.2.2.1, (m.2.2.2.1, []))))) (dgB_eq _)]
  exact congrArg some hm
 have hrd : ((UInt8.toNat (rd (0 : UInt8) v (k : Int)) : Nat) : Int) = m.1 := by
  have h4 : hK (List.drop k v) = m.1 := by rw [hd]; exact congrArg Prod.fst e1
  have hrd0 : rd (0 : UInt8) (List.drop k v) 0 = rd (0 : UInt8) v (k : Int) := by
   rw [rd_lt hlt, show (0 : Int) = ((0 : Nat) : Int) from rfl, rd_lt (by rw [List.length_drop]; omega)]
   simp
  unfold hK at h4
  rw [hrd0] at h4; exact h4
 obtain ⟨m1, m2, m3, m4, m5, m6, m7⟩ := msgF_ok hm
 have ecast : ((k + (enc m).length : Nat) : Int) = (k : Int) + 24 + (m.2.2.2.2.length : Int) := by omega
 rw [ecast]
 refine loopX_next ?_
 have e24 : Int.toNat ((k : Int) + 24) = k + 24 := by omega
 have eE : Int.toNat ((k : Int) + 24 + (m.2.2.2.2.length : Int)) = k + 24 + m.2.2.2.2.length := by omega
 have hbody : List.drop (k + 24) (List.take (k + 24 + m.2.2.2.2.length) v) = m.2.2.2.2 := by
  rw [List.drop_take, show k + 24 + m.2.2.2.2.length - (k + 24) = m.2.2.2.2.length by omega, ← List.drop_drop, hd, e3]
  exact List.take_left' rfl
 have hcl : slices_Clone_byte_byte.f m.2.2.2.2 = some m.2.2.2.2 := cloneB (by omega)
 simp only [wire_Feed.s0, cb_dec, cb_not, within_eq, ob_s, ek, hd, h1, h3, hrd]
 rw [if_pos (by omega), if_neg (by omega), ck_pos (by omega), if_pos m1, ck_in (by omega) (by omega), if_neg (by omega), ck_pos (by omega), if_pos trivial, ck_in (by omega) (by omega), ck_in (by omega) (by omega), if_neg (by omega)]
 by_cases hz : (0 : Int) < (m.2.2.2.2.length : Int)
 ·rw [if_pos hz, ck_in (by omega) (by omega), ck_pos (by omega)]
  simp only [e24, eE, hbody, hcl, ob_s]
  rw [ck_pos (by simp; omega)]
 ·rw [if_neg hz, ck_pos (by simp; omega)]
  have hb0 : m.2.2.2.2 = [] := List.eq_nil_of_length_eq_zero (by omega)
  have : (m.1, (m.2.1, (m.2.2.1, (m.2.2.2.1, ([] : List UInt8))))) = m := by rw [← hb0]
  rw [this]
theorem stop_pre {v : List UInt8} (hv : v.length ≤ 10000000) {k : Nat} {o : List Msg} {m : Msg} {r t : List UInt8} (hm : msgF m = 0) (hd : List.drop k v = r) (hr : r ≠ []) (he : enc m = r ++ t) (ht : t ≠ []) (ho : o.length < 20000) :
  wire_Feed.l0 v (k : Int) o = some (.inr ((k : Int), o)) := by
 obtain ⟨e1, e2, e3⟩ := head_enc hm []
 rw [List.append_nil] at e1 e2 e3
 have el := enc_len hm
 obtain ⟨m1, m2, m3, m4, m5, m6, m7⟩ := msgF_ok hm
 have hrl : 0 < r.length := List.length_pos_iff.2 hr
 have htl : 0 < t.length := List.length_pos_iff.2 ht
 have hel : (enc m).length = r.length + t.length := by rw [he, List.length_append]
 have hlen : v.length - k = r.length := by rw [← hd, List.length_drop]
 have hlt : k < v.length := by omega
 have ek : Int.toNat (k : Int) = k := by omega
 have hrd0 : rd (0 : UInt8) (List.drop k v) 0 = rd (0 : UInt8) v (k : Int) := by
  rw [rd_lt hlt, show (0 : Int) = ((0 : Nat) : Int) from rfl, rd_lt (by rw [List.length_drop]; omega)]
  simp
 have hKr : hK r = hK (enc m) := by
  unfold hK
  rw [he, show (0 : Int) = ((0 : Nat) : Int) from rfl, rd_lt hrl, rd_lt (by rw [List.length_append]; omega), List.getElem_append_left hrl]
 have hK1 : hK (enc m) = m.1 := congrArg Prod.fst e1
 have hrd : ((UInt8.toNat (rd (0 : UInt8) v (k : Int)) : Nat) : Int) = m.1 := by
  rw [← hrd0, hd]
  exact hKr.trans hK1
 refine loopX_done ?_
 by_cases hs : r.length < 24
 ·simp only [wire_Feed.s0, cb_dec, cb_not, within_eq, ob_s, hrd]
  rw [if_pos (by omega), if_neg (by omega), ck_pos (by omega), if_pos m1, ck_in (by omega) (by omega), if_pos (by omega)]
 ·have t17 : List.take 17 (enc m) = List.take 17 r := by rw [he, List.take_append_of_le_length (by omega)]
  have t21 : List.take 21 (enc m) = List.take 21 r := by rw [he, List.take_append_of_le_length (by omega)]
  have t24 : List.take 24 (enc m) = List.take 24 r := by rw [he, List.take_append_of_le_length (by omega)]
  have hdr : hdM r = (m.1, (m.2.1, (m.2.2.1, (m.2.2.2.1, [])))) := by
   rw [← e1]; unfold hdM hD hN; rw [hKr, t17, t21]
  have hMr : hM r = m.2.2.2.2.length := by rw [← e2]; unfold hM; rw [t24]
  have h1 := head_eq (y := r) (by omega)
  rw [hdr, hMr] at h1
  have h3 : wire_checkMessage.f (m.1, (m.2.1, (m.2.2.1, (m.2.2.2.1, [])))) (m.2.2.2.2.length : Int) = some 0 := by
   rw [chk_eq (m := (m.1, (m.2.1, (m.2.2.1, (m.2.2.2.1, []))))) (dgB_eq _)]
   exact congrArg some hm
  simp only [wire_Feed.s0, cb_dec, cb_not, within_eq, ob_s, ek, hd, h1, h3, hrd]
  rw [if_pos (by omega), if_neg (by omega), ck_pos (by omega), if_pos m1, ck_in (by omega) (by omega), if_neg (by omega), ck_pos (by omega), if_pos trivial, ck_in (by omega) (by omega), ck_in (by omega) (by omega), if_pos (by omega)]
def restP (r : List UInt8) : Prop := r = [] ∨ ∃ m t, msgF m = 0 ∧ enc m = r ++ t ∧ t ≠ [] ∧ r ≠ []
theorem parse_all {v : List UInt8} (hv : v.length ≤ 10000000) {r : List UInt8} (hr : restP r) : ∀ (ms : List Msg) (k : Nat) (o : List Msg), (∀ m ∈ ms, msgF m = 0) → List.drop k v = encL ms ++ r → k ≤ v.length → o.length + ms.length ≤ 20000 → (r ≠ [] → o.length + ms.length < 20000) →
  wire_Feed.l0 v (k : Int) o = some (.inr (((k + (encL ms).length : Nat) : Int), o ++ ms)) := by
 intro ms
 induction ms with
 | nil =>
  intro k o _ hd hk ho ho2
  simp only [encL, List.flatMap_nil, List.nil_append, List.length_nil, Nat.add_zero, List.append_nil] at hd ⊢
  rcases hr with rfl | ⟨m, t, hm, he, ht, hne⟩
  ·have hlen : v.length - k = 0 := by rw [← List.length_drop, hd]; rfl
   refine loopX_done ?_
   simp only [wire_Feed.s0, cb_dec]
   rw [if_neg (by omega)]
  ·exact stop_pre hv hm hd hne he ht (by have := ho2 hne; simpa using this)
 | cons m ms ih =>
  intro k o hms hd hk ho ho2
  have hm := hms m (List.mem_cons_self ..)
  have hd' : List.drop k v = enc m ++ (encL ms ++ r) := by rw [hd]; simp [encL]
  have hlen : v.length - k = (enc m).length + (encL ms ++ r).length := by rw [← List.length_drop, hd', List.length_append]
  simp only [List.length_cons] at ho ho2
  have hel := enc_len hm
  rw [step_enc hv hm hd' (by omega)]
  have h := ih (k + (enc m).length) (o ++ [m]) (fun x hx => hms x (List.mem_cons_of_mem _ hx)) (by rw [← List.drop_drop, hd']; exact List.drop_left' rfl) (by omega) (by simp; omega) (fun h => by have := ho2 h; simp; omega)
  rw [h]
  have e : encL (m :: ms) = enc m ++ encL ms := by simp [encL]
  rw [e, List.length_append, List.append_assoc]
  simp only [Nat.add_assoc, List.singleton_append]
end Go.Proofs.YtpeiomhgaembaaaDoor
set_option linter.unusedVariables false
set_option linter.unusedSimpArgs false
namespace Go.Proofs.YtpeiomhgaembaaaDoor
open Go Go.Proofs.YtpeiomhgaembaaaDoor.Eng
theorem copyMsgs {l : List Msg} (hl : l.length * 64 ≤ 140737488355328) (h : ∀ m ∈ l, m.2.2.2.2.length ≤ 140737488355328) : ref8_CopyMessages.f l = some l := by
 have go : ∀ (n k : Nat), l.length - k = n → k ≤ l.length → ref8_CopyMessages.l0 l (l.length : Int) (k : Int) (l.take k) = some l := by
  intro n
  induction n with
  | zero =>
   intro k hn hk
   obtain rfl : k = l.length := by omega
   rw [List.take_length]
   refine loopX_done ?_
   simp only [ref8_CopyMessages.s0, cb_dec]
   rw [if_neg (by omega)]
  | succ n ih =>
   intro k hn hk
   have hlt : k < l.length := by omega
   refine (loopX_next (x' := (((k + 1 : Nat) : Int), l.take (k + 1))) ?_).trans (ih (k + 1) (by omega) (by omega))
   have hlen : (List.take k l).length = k := by rw [List.length_take]; omega
   simp only [ref8_CopyMessages.s0, cb_dec, rd_lt hlt, cloneB (h _ (List.getElem_mem hlt)), ob_s]
   rw [if_pos (by omega), ck_pos (by omega), ck_pos (by simp only [hlen, List.length_cons, List.length_nil]; omega), ck_in (by omega) (by omega)]
   have e : List.take (k + 1) l = List.take k l ++ [l[k]] := by rw [List.take_succ_eq_append_getElem hlt]
   rw [e]
   rfl
 unfold ref8_CopyMessages.f
 have := go l.length 0 (by omega) (by omega)
 rw [show ((0 : Nat) : Int) = 0 from rfl, List.take_zero] at this
 simp only [this, ob_s]
theorem feed_of {a b : List UInt8} {ms : List Msg} {r : List UInt8} (ha : a.length ≤ 65560) (hb : b.length ≤ 2000000) (hms : ∀ m ∈ ms, msgF m = 0) (hr : restP r) (he : a ++ b = encL ms ++ r) (hl : ms.length ≤ 20000) (hl2 : r ≠ [] → ms.length < 20000) :
  wire_Feed.f a b = some (ms, r, 0, 0) := by
 have hlen : (a ++ b).length = a.length + b.length := List.length_append
 unfold wire_Feed.f
 simp only [cb_dec]
 rw [if_neg (by omega), if_neg (by omega), concat_eq a b (by omega), ob_s]
 have h := parse_all (v := a ++ b) (by omega) hr ms 0 [] hms (by rw [List.drop_zero]; exact he) (by omega) (by simpa using hl) (by simpa using hl2)
 rw [show ((0 : Nat) : Int) = 0 from rfl, Nat.zero_add, List.nil_append] at h
 rw [h, ob_s, caseS_r]
 have hle : (encL ms).length ≤ (a ++ b).length := by rw [he, List.length_append]; omega
 have hd : List.drop (Int.toNat ((encL ms).length : Int)) (a ++ b) = r := by rw [he]; exact List.drop_left' rfl
 have hcl : slices_Clone_byte_byte.f r = some r := by
  refine cloneB ?_
  have : (a ++ b).length = (encL ms).length + r.length := by rw [he, List.length_append]
  omega
 simp only [hd]
 rw [ck_pos (by omega), hcl, ob_s]
theorem feed_long {a b : List UInt8} (hb : 2000000 < b.length) : wire_Feed.f a b = some ([], [], 0, 2) := by
 unfold wire_Feed.f
 simp only [cb_dec]
 by_cases h : (65560 : Int) < (a.length : Int)
 ·rw [if_pos h]
 ·rw [if_neg h, if_pos (by omega)]
theorem framesR_zero {l : List Msg} (h : (framesR l).2 = 0) : l.length ≤ 20000 ∧ (∀ m ∈ l, msgF m = 0) ∧ (framesR l).1 = encL l := by
 unfold framesR at h ⊢
 by_cases h1 : 20000 < l.length
 ·rw [if_pos h1] at h; cases h
 ·rw [if_neg h1] at h ⊢
  by_cases h2 : firstF l = 0
  ·rw [if_pos h2]; exact ⟨by omega, firstF_all h2, rfl⟩
  ·rw [if_neg h2] at h; exact absurd h h2
theorem framesR_len (l : List Msg) : (framesR l).1.length ≤ 1311200000 := by
 by_cases h : (framesR l).2 = 0
 ·obtain ⟨h1, h2, h3⟩ := framesR_zero h
  rw [h3]
  have := encL_len h2
  omega
 ·unfold framesR at h ⊢
  by_cases h1 : 20000 < l.length
  ·rw [if_pos h1]; simp
  ·rw [if_neg h1] at h ⊢
   by_cases h2 : firstF l = 0
   ·rw [if_pos h2] at h; exact absurd rfl h
   ·rw [if_neg h2]; simp
theorem law_FR (l : List Msg) (hl : l.length * 64 ≤ 140737488355328) (h : ∀ m ∈ l, m.2.2.2.2.length ≤ 140737488355328) : law8_WireFramesMatchSpec.f l = some true := by
 obtain ⟨h1, h2⟩ := frames_eq l
 unfold law8_WireFramesMatchSpec.f
 have hs : ref8_SameMessages.f l l = some true := sameMsgs l (by omega) (fun m hm => Nat.le_trans (h m hm) (by omega))
 have hlen := framesR_len l
 simp only [copyMsgs hl h, ob_s, h1, h2, decide_true, Bool.not_true, cb_f, equalB (show (framesR l).1.length ≤ 1000000000000000 by omega), hs, awake_eq]
 by_cases h0 : (framesR l).2 = 0
 ·obtain ⟨h3, h4, h5⟩ := framesR_zero h0
  simp only [h0, decide_true, Bool.not_true, cb_f, h5]
  by_cases hb : (encL l).length ≤ 2000000
  ·rw [feed_of (ms := l) (r := []) (by simp) hb h4 (Or.inl rfl) (by simp) h3 (fun h => absurd rfl h)]
   simp only [ob_s, hs, cb_dec]
   rfl
  ·rw [feed_long (by omega), ob_s]
   simp only [cb_dec, decide_true, cb_t]
   rw [if_pos (by omega)]
 ·simp only [h0, decide_false, Bool.not_false, cb_t]
end Go.Proofs.YtpeiomhgaembaaaDoor
set_option linter.unusedVariables false
set_option linter.unusedSimpArgs false
namespace Go.Proofs.YtpeiomhgaembaaaDoor
open Go Go.Proofs.YtpeiomhgaembaaaDoor.Eng
theorem below_up (x n : Int) (h0 : 0 < n) (h1 : n ≤ 4000000000) : ∃ r, ref8_Below.f x n = some r ∧ 0 ≤ r ∧ r < n := by
 have a1 := Int.tmod_lt_of_pos x h0
 have a2 := Int.lt_tmod_of_pos x h0
 unfold ref8_Below.f
 rw [ck_pos (by omega), cb_dec]
 by_cases h : Int.tmod x n < 0
 ·rw [if_pos h, ck_in (by omega) (by omega)]
  exact ⟨_, rfl, by omega, by omega⟩
 ·rw [if_neg h]
  exact ⟨_, rfl, by omega, by omega⟩
theorem cloneI {l : List Int} (h : l.length * 8 ≤ 140737488355328) : slices_Clone_int_int_o.f l = some l := by
 unfold slices_Clone_int_int_o.f
 rw [List.nil_append, ck_pos (by simpa using h)]
 by_cases h0 : l = []
 ·subst h0; exact nq_same
 ·unfold nq; simp [h0]
def heldP (r : List UInt8) (ms : List Msg) : Prop := r = [] ∨ ∃ m ms' t, ms = m :: ms' ∧ enc m = r ++ t ∧ t ≠ []
theorem split_pre : ∀ (ms : List Msg) (x y : List UInt8), x ++ y = encL ms → ∃ m1 m2 r, ms = m1 ++ m2 ∧ x = encL m1 ++ r ∧ heldP r m2 := by
 intro ms
 induction ms with
 | nil =>
  intro x y h
  have : x = [] := by
   have h2 := congrArg List.length h
   simp only [encL, List.flatMap_nil, List.length_append, List.length_nil] at h2
   exact List.eq_nil_of_length_eq_zero (by omega)
  exact ⟨[], [], [], rfl, by rw [this]; rfl, Or.inl rfl⟩
 | cons m ms ih =>
  intro x y h
  have e : encL (m :: ms) = enc m ++ encL ms := by simp [encL]
  rw [e] at h
  by_cases hx : x.length < (enc m).length
  ·obtain ⟨t, ht⟩ : ∃ t, enc m = x ++ t := by
    refine ⟨(enc m).drop x.length, ?_⟩
    have h3 : List.take x.length (enc m ++ encL ms) = x := by rw [← h]; exact List.take_left' rfl
    rw [List.take_append_of_le_length (by omega)] at h3
    conv => lhs; rw [← List.take_append_drop x.length (enc m), h3]
   refine ⟨[], m :: ms, x, rfl, rfl, Or.inr ⟨m, ms, t, rfl, ht, ?_⟩⟩
   intro h0
   rw [ht, h0, List.append_nil] at hx
   omega
  ·have h3 : List.take (enc m).length x = enc m := by
    have := congrArg (List.take (enc m).length) h
    rw [List.take_append_of_le_length (by omega), List.take_left' rfl] at this
    exact this
   have h4 : x = enc m ++ x.drop (enc m).length := by
    conv => lhs; rw [← List.take_append_drop (enc m).length x, h3]
   obtain ⟨m1, m2, r, e1, e2, e3⟩ := ih (x.drop (enc m).length) y (by
    rw [h4, List.append_assoc] at h
    exact List.append_cancel_left h)
   refine ⟨m :: m1, m2, r, by rw [e1]; rfl, ?_, e3⟩
   rw [h4, e2]
   simp [encL]
theorem held_rest {r : List UInt8} {ms : List Msg} (h : heldP r ms) (hv : ∀ m ∈ ms, msgF m = 0) : restP r ∧ (r ≠ [] → ms ≠ []) ∧ r.length ≤ 65560 := by
 rcases h with rfl | ⟨m, ms', t, rfl, h2, h3⟩
 ·exact ⟨Or.inl rfl, fun h => absurd rfl h, by simp⟩
 ·have hm := hv m (List.mem_cons_self ..)
  have h5 := enc_len hm
  have h6 := (msgF_ok hm).2.2.2.2.1
  rw [h2, List.length_append] at h5
  refine ⟨?_, fun _ => by simp, by omega⟩
  by_cases h0 : r = []
  ·exact Or.inl h0
  ·exact Or.inr ⟨m, t, hm, h2, h3, h0⟩
theorem piecesLoop {ms : List Msg} {b : List UInt8} (hb : b = encL ms) (hl : ms.length ≤ 20000) (hv : ∀ m ∈ ms, msgF m = 0) {cs o1 : List Int} (hc : cs.length ≤ 100000000000000) (hlast : ∀ (k : Nat) (h : k < cs.length), k + 1 = cs.length → cs[k] = (b.length : Int)) :
  ∀ (n k a : Nat) (got m2 : List Msg) (held : List UInt8), cs.length - k = n → k ≤ cs.length → a ≤ b.length → ms = got ++ m2 → held ++ b.drop a = encL m2 → heldP held m2 → (k = cs.length → a = b.length) →
   law8_WireFeedInPieces.l0 b (cs.length : Int) held (a : Int) (k : Int) cs o1 got = some (.inl true) ∨ law8_WireFeedInPieces.l0 b (cs.length : Int) held (a : Int) (k : Int) cs o1 got = some (.inr ([], cs, o1, ms)) := by
 have hbl : b.length ≤ 1311200000 := by
  have := encL_len hv
  rw [hb]; omega
 intro n
 induction n with
 | zero =>
  intro k a got m2 held hn hk ha hm hd hh he
  obtain rfl : k = cs.length := by omega
  have ha' := he rfl
  rw [List.drop_eq_nil_of_le (by omega), List.append_nil] at hd
  have h0 : m2 = [] := by
   rcases hh with rfl | ⟨m, ms', t, rfl, h2, h3⟩
   ·cases m2 with
    | nil => rfl
    | cons m r =>
     have h5 := enc_len (hv m (by rw [hm]; simp))
     have h6 := congrArg List.length hd
     simp only [encL, List.flatMap_cons, List.length_append, List.length_nil] at h6
     omega
   ·have h6 := congrArg List.length hd
    have h7 := congrArg List.length h2
    have h8 := List.length_pos_iff.2 h3
    simp only [encL, List.flatMap_cons, List.length_append] at h6 h7
    omega
  subst h0
  have hh0 : held = [] := hd
  subst hh0
  right
  rw [List.append_nil] at hm
  rw [hm]
  refine loopX_done ?_
  simp only [law8_WireFeedInPieces.s0, cb_dec]
  rw [if_neg (by omega)]
 | succ n ih =>
  intro k a got m2 held hn hk ha hm hd hh he
  have hlt : k < cs.length := by omega
  have hg : List.getD cs (Int.toNat (k : Int)) 0 = cs[k] := by simp [List.getD, hlt]
  have hv2 : ∀ m ∈ m2, msgF m = 0 := fun m h => hv m (by rw [hm]; exact List.mem_append_right _ h)
  have hvg : got.length + m2.length = ms.length := by rw [hm, List.length_append]
  obtain ⟨hr1, hr2, hr3⟩ := held_rest hh hv2
  obtain ⟨r, hbel, r0, r1⟩ := below_up cs[k] ((b.length : Int) - a + 1) (by omega) (by omega)
  obtain ⟨rn, rfl⟩ := Int.eq_ofNat_of_zero_le r0
  have step : ∀ t : Nat, a ≤ t → t ≤ b.length → (k + 1 = cs.length → t = b.length) → (wire_Feed.f held (List.drop a (List.take t b)) = some ([], [], 0, 2) ∧ 2000000 < b.length) ∨ ∃ m3 r', got.length + m3.length ≤ 20000 ∧ wire_Feed.f held (List.drop a (List.take t b)) = some (m3, r', 0, 0) ∧ (law8_WireFeedInPieces.l0 b (cs.length : Int) r' (t : Int) ((k + 1 : Nat) : Int) cs o1 (got ++ m3) = some (.inl true) ∨ law8_WireFeedInPieces.l0 b (cs.length : Int) r' (t : Int) ((k + 1 : Nat) : Int) cs o1 (got ++ m3) = some (.inr ([], cs, o1, ms))) := by
   intro t h1 h2 h3
   have hlen : (List.drop a (List.take t b)).length = t - a := by rw [List.length_drop, List.length_take]; omega
   by_cases hbig : 2000000 < (List.drop a (List.take t b)).length
   ·exact Or.inl ⟨feed_long hbig, by omega⟩
   ·right
    have hdd : List.drop a b = List.drop a (List.take t b) ++ List.drop t b := by
     rw [← List.drop_append_of_le_length (by rw [List.length_take]; omega), List.take_append_drop]
    rw [hdd, ← List.append_assoc] at hd
    obtain ⟨m3, m4, r', e1, e2, e3⟩ := split_pre m2 _ _ hd
    have hl2 : m2.length = m3.length + m4.length := by rw [e1, List.length_append]
    have hv4 : ∀ m ∈ m4, msgF m = 0 := fun m h => hv2 m (by rw [e1]; exact List.mem_append_right _ h)
    obtain ⟨q1, q2, q3⟩ := held_rest e3 hv4
    refine ⟨m3, r', by omega, feed_of hr3 (by omega) (fun m h => hv2 m (by rw [e1]; exact List.mem_append_left _ h)) q1 e2 (by omega) (fun h => ?_), ih (k + 1) t (got ++ m3) m4 r' (by omega) (by omega) h2 (by rw [hm, e1, List.append_assoc]) ?_ e3 h3⟩
    ·have := List.length_pos_iff.2 (q2 h)
     omega
    ·rw [e2, e1] at hd
     simp only [encL, List.flatMap_append, List.append_assoc] at hd ⊢
     exact List.append_cancel_left hd
  by_cases hcb : cs[k] = (b.length : Int)
  ·have ea : Int.toNat (b.length : Int) = b.length := by omega
   have eb : Int.toNat (a : Int) = a := by omega
   rcases step b.length ha (Nat.le_refl _) (fun _ => rfl) with ⟨h1, h2⟩ | ⟨m3, r', h1, h2, h3⟩
   ·left
    refine loopX_done ?_
    simp only [law8_WireFeedInPieces.s0, cb_dec, cb_not, hg]
    rw [if_pos (by omega), ck_pos (by omega), ck_pos (by omega), ck_in (by omega) (by omega), ck_in (by omega) (by omega), hbel, ob_s, ck_in (by omega) (by omega), if_pos hcb, ck_pos (by omega), ea, eb, h1]
    simp only [ob_s]
    rw [if_neg (by decide), if_pos trivial, if_pos (by omega), awake_eq, ob_s]
   ·have hs : law8_WireFeedInPieces.s0 b (cs.length : Int) held (a : Int) (k : Int) cs o1 got = some (.inl (r', (b.length : Int), ((k + 1 : Nat) : Int), cs, o1, got ++ m3)) := by
     simp only [law8_WireFeedInPieces.s0, cb_dec, cb_not, hg]
     rw [if_pos (by omega), ck_pos (by omega), ck_pos (by omega), ck_in (by omega) (by omega), ck_in (by omega) (by omega), hbel, ob_s, ck_in (by omega) (by omega), if_pos hcb, ck_pos (by omega), ea, eb, h2]
     simp only [ob_s]
     rw [if_pos trivial, if_pos trivial, ck_pos (by omega), ck_in (by omega) (by omega)]
     rfl
    rcases h3 with h3 | h3
    ·exact Or.inl ((loopX_next hs).trans h3)
    ·exact Or.inr ((loopX_next hs).trans h3)
  ·have ea : Int.toNat ((a : Int) + (rn : Int)) = a + rn := by omega
   have eb : Int.toNat (a : Int) = a := by omega
   rcases step (a + rn) (by omega) (by omega) (fun h => absurd (hlast k hlt h) hcb) with ⟨h1, h2⟩ | ⟨m3, r', h1, h2, h3⟩
   ·left
    refine loopX_done ?_
    simp only [law8_WireFeedInPieces.s0, cb_dec, cb_not, hg]
    rw [if_pos (by omega), ck_pos (by omega), ck_pos (by omega), ck_in (by omega) (by omega), ck_in (by omega) (by omega), hbel, ob_s, ck_in (by omega) (by omega), if_neg hcb, ck_pos (by omega), ea, eb, h1]
    simp only [ob_s]
    rw [if_neg (by decide), if_pos trivial, if_pos (by omega), awake_eq, ob_s]
   ·have hs : law8_WireFeedInPieces.s0 b (cs.length : Int) held (a : Int) (k : Int) cs o1 got = some (.inl (r', ((a + rn : Nat) : Int), ((k + 1 : Nat) : Int), cs, o1, got ++ m3)) := by
     simp only [law8_WireFeedInPieces.s0, cb_dec, cb_not, hg]
     rw [if_pos (by omega), ck_pos (by omega), ck_pos (by omega), ck_in (by omega) (by omega), ck_in (by omega) (by omega), hbel, ob_s, ck_in (by omega) (by omega), if_neg hcb, ck_pos (by omega), ea, eb, h2]
     simp only [ob_s]
     rw [if_pos trivial, if_pos trivial, ck_pos (by omega), ck_in (by omega) (by omega)]
     rfl
    rcases h3 with h3 | h3
    ·exact Or.inl ((loopX_next hs).trans h3)
    ·exact Or.inr ((loopX_next hs).trans h3)
theorem framesR_nil {l : List Msg} (h : (framesR l).2 ≠ 0) : (framesR l).1 = [] := by
 unfold framesR at h ⊢
 by_cases h1 : 20000 < l.length
 ·rw [if_pos h1]
 ·rw [if_neg h1] at h ⊢
  by_cases h2 : firstF l = 0
  ·rw [if_pos h2] at h; exact absurd rfl h
  ·rw [if_neg h2]
theorem law_PI (l : List Msg) (cs : List Int) (hc : (cs.length + 1) * 8 ≤ 140737488355328) (h : ∀ m ∈ l, m.2.2.2.2.length ≤ 140737488355328) : law8_WireFeedInPieces.f l cs = some true := by
 obtain ⟨h1, h2⟩ := frames_eq l
 unfold law8_WireFeedInPieces.f
 rw [h1, ob_s]
 by_cases h0 : (framesR l).2 = 0
 ·obtain ⟨h3, h4, h5⟩ := framesR_zero h0
  simp only [h0, decide_true, Bool.not_true, cb_f, h5]
  rw [cloneI (by omega), ob_s, ck_pos (by simpa using hc)]
  have hlen : (cs ++ [((encL l).length : Int)]).length = cs.length + 1 := by simp
  have hl := piecesLoop (ms := l) rfl h3 h4 (cs := cs ++ [((encL l).length : Int)]) (o1 := [((encL l).length : Int)]) (by omega) (by
   intro k hk hk1
   obtain rfl : k = cs.length := by omega
   simp) _ 0 0 [] l [] rfl (by omega) (by omega) rfl (by simp) (Or.inl rfl) (by omega)
  rw [show ((0 : Nat) : Int) = 0 from rfl] at hl
  rcases hl with hl | hl
  ·rw [hl]; rfl
  ·rw [hl, ob_s, caseS_r]
   simp only [List.length_nil, sameMsgs l (by omega) (fun m hm => Nat.le_trans (h m hm) (by omega)), ob_s, awake_eq]
   rfl
 ·simp only [h0, decide_false, Bool.not_false, cb_t, framesR_nil h0, awake_eq]
  rfl
end Go.Proofs.YtpeiomhgaembaaaDoor
