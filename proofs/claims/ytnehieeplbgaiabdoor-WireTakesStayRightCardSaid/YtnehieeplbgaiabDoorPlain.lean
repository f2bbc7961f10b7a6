/-
  The plain laws of frames and of feeding them, over the printed functions. No condition.
-/
import Derived.Test.YtnehieeplbgaiabDoorFun
import Derived.Sort.Walk0
import Derived.Test.YtnehieeplbgaiabDoorTypC
set_option linter.unusedVariables false
set_option linter.unusedSimpArgs false
namespace Go.Proofs.YtnehieeplbgaiabDoor
open Go Go.Lib Go.Proofs.YtnehieeplbgaiabDoor.Eng
abbrev Obj := ByteArray × List UInt8
abbrev Par := ByteArray × (Int × List UInt8)
abbrev Rcv := List Obj × List Par
abbrev Msg := Int × (ByteArray × (Int × (Int × List UInt8)))
def BIG : Nat := 140737488355328
theorem Z7u {β : Type} {c : Prop} [h : Decidable c] {a : Option β} : ck c a = if c then a else none := by
 by_cases hc : c
 ·rw [Z2 hc, if_pos hc]
 ·rw [if_neg hc]; unfold ck; rw [if_neg hc]
instance inR_dec (x : Int) : Decidable (InR x) := by unfold InR; infer_instance
theorem Z27 (a b c : Int) : Qd.f a b c = some (decide (b ≤ a ∧ a ≤ c)) := by
 unfold Qd.f
 rw [Zg]
 by_cases h : b ≤ a <;> simp [h]
theorem starts_awake : Q8.f ((2 : Int), (10 : Int)) [((0 : Int), (8 : Int)), ((0 : Int), (8 : Int))] = some ([0, 3], 0) := by
 have q : Qk.f ((2 : Int), (10 : Int)) = some 0 := by
  simp only [Qk.f, Z27, ob_s]; rfl
 have l0 : Q8.l0 [((0 : Int), (8 : Int)), ((0 : Int), (8 : Int))] ((2 : Int), (10 : Int)) [((0 : Int), (8 : Int)), ((0 : Int), (8 : Int))] 2 0 = some (.inr ()) := by
  refine (Zq (x' := 1) ?_).trans ((Zq (x' := 2) ?_).trans (Zu ?_))
  ·simp only [Q8.s0, Z7u, Z27, ob_s]; rfl
  ·simp only [Q8.s0, Z7u, Z27, ob_s]; rfl
  ·simp only [Q8.s0, Z7u, Z27, ob_s]; rfl
 have l1 : Q8.l1 ((2 : Int), (10 : Int)) [((0 : Int), (8 : Int)), ((0 : Int), (8 : Int))] 2 0 10 0 [] = some (3, [0, 3]) := by
  refine (Zq (x' := (0, 2, 1, [0])) ?_).trans ((Zq (x' := (3, 0, 2, [0, 3])) ?_).trans (Zu ?_))
  ·simp only [Q8.s1, Z7u]; rfl
  ·simp only [Q8.s1, Z7u]; rfl
  ·simp only [Q8.s1, Z7u]; rfl
 unfold Q8.f
 rw [q, ob_s]
 show ob (Q8.l0 [((0 : Int), (8 : Int)), ((0 : Int), (8 : Int))] ((2 : Int), (10 : Int)) [((0 : Int), (8 : Int)), ((0 : Int), (8 : Int))] 2 0) _ = _
 rw [l0, ob_s, Z7y]
 show ob (Q8.l1 ((2 : Int), (10 : Int)) [((0 : Int), (8 : Int)), ((0 : Int), (8 : Int))] 2 0 10 0 []) _ = _
 rw [l1, ob_s]
 rfl
theorem awake_eq : Qt.f = some true := by
 unfold Qt.f
 rw [starts_awake, ob_s]
 simp only [Z7u]
 rfl
theorem Z9i {α : Type} (l : List α) (c : Prop) (h : c) : nq (¬ l = ([] : List α)) (ck c (some (([] : List α) ++ l))) (some ([] : List α)) = some l := by
 by_cases he : l = []
 ·subst he
  rw [Z2 h]
  exact nq_same
 ·unfold nq
  rw [if_pos he, Z2 h]
  rfl
theorem Zjt {l : List UInt8} (h : l.length ≤ BIG) : Qb.f l = some l := Z9i l _ (by have : BIG = 140737488355328 := rfl; simp; omega)
theorem cloneO {l : List Obj} (h : l.length ≤ 1000000) : Q9.f l = some l := Z9i l _ (by simp; omega)
theorem cloneP {l : List Par} (h : l.length ≤ 1000000) : Q6.f l = some l := Z9i l _ (by simp; omega)
theorem equalB2 (a b : List UInt8) (ha : a.length ≤ 1000000000000000) : Q2.f a b = some (decide (a = b)) := by
 have go : ∀ (n k : Nat), a.length = b.length → a.length - k = n → k ≤ a.length → Q2.l0 a b (a.length : Int) (k : Int) = some (if a.drop k = b.drop k then .inr () else .inl false) := by
  intro n
  induction n with
  | zero =>
   intro k hab hn hk
   obtain rfl : k = a.length := by omega
   refine Zu ?_
   simp only [Q2.s0, Zg]
   rw [if_neg (by omega), List.drop_length, hab, List.drop_length, if_pos rfl]
  | succ n ih =>
   intro k hab hn hk
   have hlt : k < a.length := by omega
   have hlt2 : k < b.length := by omega
   have ihk := ih (k + 1) hab (by omega) (by omega)
   rw [List.drop_eq_getElem_cons hlt, List.drop_eq_getElem_cons hlt2]
   by_cases he : a[k] = b[k]
   ·refine (Zq (x' := ((k + 1 : Nat) : Int)) ?_).trans (ihk.trans ?_)
    ·simp only [Q2.s0, Zg, Z20, Z3e hlt, Z3e hlt2]
     rw [if_pos (by omega), Z2 (by omega), Z2 (by omega), if_pos (by rw [he]), Z2f (by omega) (by omega)]
     rfl
    ·congr 1; simp only [List.cons.injEq, he, true_and]
   ·refine Zu ?_
    simp only [Q2.s0, Zg, Z20, Z3e hlt, Z3e hlt2]
    have hne : ¬ (((UInt8.toNat a[k] : Nat) : Int) = ((UInt8.toNat b[k] : Nat) : Int)) := fun h => he (UInt8.toNat_inj.1 (by omega))
    rw [if_pos (by omega), Z2 (by omega), Z2 (by omega), if_neg hne, if_neg (fun h => he (List.cons.inj h).1)]
 unfold Q2.f
 simp only [Z20, Zg]
 by_cases hl : a.length = b.length
 ·rw [if_pos (by omega), show (0 : Int) = ((0 : Nat) : Int) from rfl, go a.length 0 hl (by omega) (by omega), ob_s]
  simp only [List.drop_zero]
  by_cases h : a = b
  ·rw [if_pos h, Z7y]; simp [h]
  ·rw [if_neg h, Zd6]; simp [h]
 ·rw [if_neg (by omega)]
  have : a ≠ b := fun h => hl (by rw [h])
  simp [this]
theorem cb_if {β : Type} {b : Bool} {x y : Option β} : cb b x y = if b = true then x else y := by cases b <;> rfl
def chkF (dg : Bool) (k p s n : Int) : Int :=
 if ¬ (1 ≤ k ∧ k ≤ 6) then 4 else if dg = false then 3 else if ¬ (0 ≤ p ∧ p ≤ 2000000) then 1 else if ¬ (0 ≤ s ∧ s ≤ 2000000) then 1 else if 65536 < n then 2
 else if (p ≠ 0 ∧ ¬ (k = 2 ∨ k = 3)) ∨ (s ≠ 0 ∧ k ≠ 1) ∨ ¬ (k = 2 ↔ 0 < n) then 3 else 0
theorem chk_eq {m : Msg} {n : Int} {dg : Bool} (hd : Qf.f m.2.1 = some dg) : Qh.f m n = some (chkF dg m.1 m.2.2.1 m.2.2.2.1 n) := by
 obtain ⟨k, d, p, s, b⟩ := m
 simp only at hd ⊢
 unfold Qh.f chkF
 simp only [Z27, hd, ob_s, Z20, cb_if, decide_eq_true_eq, beq_iff_eq, decide_eq_decide]
 cases dg
 ·by_cases h1 : 1 ≤ k ∧ k ≤ 6 <;> simp [h1]
 ·by_cases h1 : 1 ≤ k ∧ k ≤ 6
  ·by_cases h3 : 0 ≤ p ∧ p ≤ 2000000
   ·by_cases h4 : 0 ≤ s ∧ s ≤ 2000000
    ·by_cases h5 : 65536 < n
     ·simp [h1, h3, h4, h5]
     ·simp only [h1, h3, h4, h5, not_true_eq_false, and_self, if_true, if_false]
      by_cases h6 : k = 2
      ·subst h6
       by_cases h7 : s = 0 <;> by_cases h8 : 0 < n <;> simp [h7, h8]
      ·by_cases h7 : k = 3
       ·subst h7
        by_cases h8 : s = 0 <;> by_cases h9 : 0 < n <;> simp [h8, h9]
       ·by_cases h8 : k = 1
        ·subst h8
         by_cases h9 : p = 0 <;> by_cases h10 : 0 < n <;> simp [h9, h10]
        ·by_cases h9 : p = 0 <;> by_cases h10 : 0 < n <;> by_cases h11 : s = 0 <;> simp [h6, h7, h8, h9, h10, h11]
    ·simp [h1, h3, h4]
   ·simp [h1, h3]
  ·simp [h1]
theorem Zfq (s : ByteArray) : s.size = s.data.toList.length := by rw [ByteArray.size]; simp
def cmpS (a b : ByteArray) : Int := Lib.compareBytes a.data.toList b.data.toList
theorem cmpL_less : ∀ a b : List UInt8, (Lib.compareBytes a b < 0 ↔ Op.bytesLess a b = true)
 | [], [] => by simp [Lib.compareBytes, Op.bytesLess]
 | [], _ :: _ => by simp [Lib.compareBytes, Op.bytesLess]
 | _ :: _, [] => by simp [Lib.compareBytes, Op.bytesLess]
 | x :: a, y :: b => by
  have ih := cmpL_less a b
  unfold Lib.compareBytes Op.bytesLess
  by_cases h1 : x < y
  ·simp [h1]
  ·by_cases h2 : y < x
   ·have h3 : ¬ x = y := fun e => by subst e; exact absurd h2 (UInt8.lt_irrefl x)
    simp [h1, h2, h3]
   ·have h3 : x = y := UInt8.le_antisymm (UInt8.not_lt.1 h2) (UInt8.not_lt.1 h1)
    subst h3
    simp only [h1, if_false, decide_false, Bool.false_or, beq_self_eq_true, Bool.true_and]
    exact ih
theorem cmpL_eq0 : ∀ a b : List UInt8, (Lib.compareBytes a b = 0 ↔ a = b)
 | [], [] => by simp [Lib.compareBytes]
 | [], _ :: _ => by simp [Lib.compareBytes]
 | _ :: _, [] => by simp [Lib.compareBytes]
 | x :: a, y :: b => by
  have ih := cmpL_eq0 a b
  unfold Lib.compareBytes
  by_cases h1 : x < y
  ·have h3 : ¬ x = y := fun e => by subst e; exact absurd h1 (UInt8.lt_irrefl x)
   simp [h1, h3]
  ·by_cases h2 : y < x
   ·have h3 : ¬ x = y := fun e => by subst e; exact absurd h2 (UInt8.lt_irrefl x)
    simp [h1, h2, h3]
   ·have h3 : x = y := UInt8.le_antisymm (UInt8.not_lt.1 h2) (UInt8.not_lt.1 h1)
    subst h3
    simp only [h1, if_false, List.cons.injEq, true_and]
    exact ih
theorem cmpL_swap : ∀ a b : List UInt8, Lib.compareBytes b a = - Lib.compareBytes a b
 | [], [] => rfl
 | [], _ :: _ => rfl
 | _ :: _, [] => rfl
 | x :: a, y :: b => by
  have ih := cmpL_swap a b
  unfold Lib.compareBytes
  by_cases h1 : x < y
  ·have h2 : ¬ y < x := UInt8.not_lt.2 (UInt8.le_of_lt h1)
   simp [h1, h2]
  ·by_cases h2 : y < x
   ·simp [h1, h2]
   ·simp only [h1, h2, if_false]; exact ih
theorem cmpL_trans : ∀ a b c : List UInt8, Lib.compareBytes a b < 0 → Lib.compareBytes b c < 0 → Lib.compareBytes a c < 0
 | [], [], c, h, _ => by simp [Lib.compareBytes] at h
 | [], _ :: _, [], _, h => by simp [Lib.compareBytes] at h
 | [], _ :: _, _ :: _, _, _ => by simp [Lib.compareBytes]
 | _ :: _, [], c, h, _ => by simp [Lib.compareBytes] at h
 | _ :: _, _ :: _, [], _, h => by simp [Lib.compareBytes] at h
 | x :: a, y :: b, z :: c, h, h' => by
  have ih := cmpL_trans a b c
  unfold Lib.compareBytes at h h' ⊢
  by_cases h1 : x < y
  ·by_cases h2 : y < z
   ·simp [UInt8.lt_trans h1 h2]
   ·by_cases h3 : z < y
    ·simp [h2, h3] at h'
    ·have e : y = z := UInt8.le_antisymm (UInt8.not_lt.1 h3) (UInt8.not_lt.1 h2)
     subst e; simp [h1]
  ·by_cases h2 : y < x
   ·simp [h1, h2] at h
   ·have e : x = y := UInt8.le_antisymm (UInt8.not_lt.1 h2) (UInt8.not_lt.1 h1)
    subst e
    by_cases h3 : x < z
    ·simp [h3]
    ·by_cases h4 : z < x
     ·simp [h3, h4] at h'
     ·simp only [h1, if_false] at h
      simp only [h3, h4, if_false] at h' ⊢
      exact ih h h'
theorem Zhs (a b : ByteArray) : Z81 a b = true ↔ cmpS a b < 0 := by
 unfold Z81 cmpS
 rw [ByteArray.toList_eq, ByteArray.toList_eq]
 exact (cmpL_less _ _).symm
theorem Z2m (a b : ByteArray) : cmpS a b = 0 ↔ a = b := by
 unfold cmpS
 rw [cmpL_eq0]
 exact ⟨fun h => ByteArray.ext (Array.toList_inj.1 h), fun h => by rw [h]⟩
theorem Z5p (a b : ByteArray) : cmpS b a = - cmpS a b := cmpL_swap _ _
theorem Z35 {a b c : ByteArray} (h : cmpS a b < 0) (h' : cmpS b c < 0) : cmpS a c < 0 := cmpL_trans _ _ _ h h'
theorem Z9n (a b : ByteArray) : (Z81 a b || decide (a = b)) = decide (cmpS a b ≤ 0) := by
 have h1 := Zhs a b
 have h2 := Z2m a b
 by_cases h : cmpS a b < 0
 ·rw [h1.2 h, Bool.true_or, decide_eq_true (by omega)]
 ·have hf : Z81 a b = false := by
   cases hb : Z81 a b with
   | false => rfl
   | true => exact absurd (h1.1 hb) h
  rw [hf, Bool.false_or]
  exact decide_eq_decide.2 ⟨fun e => by rw [h2.2 e]; exact Int.le_refl _, fun e => h2.1 (by omega)⟩
def Rising (l : List ByteArray) : Prop := ∀ i j : Nat, ∀ h : j < l.length, ∀ h' : i < j, cmpS (l[i]'(by omega)) l[j] < 0
theorem Zcr {l : List ByteArray} (h : ∀ k : Nat, ∀ hk : k + 1 < l.length, cmpS (l[k]'(by omega)) l[k + 1] < 0) : Rising l := by
 intro i j
 induction j with
 | zero => intro h h'; omega
 | succ j ih =>
  intro hj hij
  rcases Nat.lt_or_ge i j with h1 | h1
  ·exact Z35 (ih (by omega) h1) (h j hj)
  ·have : i = j := by omega
   subst this
   exact h i hj
theorem Rising.inj {l : List ByteArray} (h : Rising l) {i j : Nat} (hi : i < l.length) (hj : j < l.length) (e : l[i] = l[j]) : i = j := by
 rcases Nat.lt_trichotomy i j with h1 | h1 | h1
 ·have := h i j hj h1
  rw [e] at this
  have h0 := (Z2m l[j] l[j]).2 rfl
  omega
 ·exact h1
 ·have := h j i hi h1
  rw [e] at this
  have h0 := (Z2m l[j] l[j]).2 rfl
  omega
theorem Z5m {p : UInt8 → Bool} : ∀ {l : List UInt8}, l.dropWhile p = [] ↔ l.all p = true
 | [] => by simp
 | x :: l => by
  rw [List.dropWhile_cons, List.all_cons]
  cases h : p x with
  | true => simp only [if_true, Bool.true_and]; exact Z5m
  | false => simp
theorem Z5n {p : UInt8 → Bool} : ∀ {l : List UInt8}, (l.dropWhile p).all p = l.all p
 | [] => rfl
 | x :: l => by
  rw [List.dropWhile_cons]
  cases h : p x with
  | true => simp only [if_true, List.all_cons, h, Bool.true_and]; exact Z5n
  | false => simp only [Bool.false_eq_true, if_false]
theorem Zi5 (l cs : List UInt8) : trimS l cs = [] ↔ l.all (fun c => cs.contains c) = true := by
 have e1 : trimLeftS (trimRightS l cs) cs = ((l.reverse.dropWhile (cs.contains ·)).reverse).dropWhile (cs.contains ·) := rfl
 unfold trimS
 rw [e1, Z5m, List.all_reverse, Z5n, List.all_reverse]
abbrev hexCs : ByteArray := Qg
def digC (c : UInt8) : Bool := decide (48 ≤ c.toNat ∧ c.toNat ≤ 57) || decide (97 ≤ c.toNat ∧ c.toNat ≤ 102)
theorem digC_eq (c : UInt8) : hexCs.data.toList.contains c = digC c := by
 have h : ((List.range 256).all fun n => hexCs.data.toList.contains (UInt8.ofNat n) == digC (UInt8.ofNat n)) = true := by decide +kernel
 have := List.all_eq_true.1 h c.toNat (List.mem_range.2 c.toNat_lt)
 simpa using this
def digB (s : ByteArray) : Bool := decide (s.size = 16) && s.data.toList.all digC
theorem Z3l (s : ByteArray) : Qf.f s = some (digB s) := by
 unfold Qf.f digB
 simp only [Zg]
 by_cases h : s.size = 16
 ·rw [if_pos (by omega)]
  unfold Qv.f
  rw [Z2 ⟨by omega, by decide, by decide +kernel⟩, ob_s]
  congr 1
  rw [decide_eq_true h, Bool.true_and]
  have e : (⟨(trimS s.data.toList hexCs.data.toList).toArray⟩ = bs_) ↔ s.data.toList.all digC = true := by
   rw [show (s.data.toList.all digC = true) ↔ (s.data.toList.all (fun c => hexCs.data.toList.contains c) = true) by simp only [digC_eq], ← Zi5]
   constructor
   ·intro h
    have := congrArg (fun b : ByteArray => b.data.toList) h
    simpa [bs_] using this
   ·intro h
    rw [h]; rfl
  cases hh : s.data.toList.all digC with
  | true => exact decide_eq_true (e.2 hh)
  | false => exact decide_eq_false (fun h => by rw [e.1 h] at hh; cases hh)
 ·rw [if_neg (by omega), decide_eq_false h]; rfl
theorem wrapU (n : Int) : IntKind.u64.wrap n = n % 18446744073709551616 := by
 simp only [IntKind.wrap, IntKind.bits, IntKind.signed, Bool.false_and, Bool.false_eq_true, if_false]
 have e : (2 : Int) ^ 64 = 18446744073709551616 := by decide
 rw [e]
def hstep (h : Int) (c : UInt8) : Int := IntKind.u64.wrap (IntKind.u64.wrap ((BitVec.toNat (BitVec.ofInt (IntKind.bits .u64) h ^^^ BitVec.ofInt (IntKind.bits .u64) (IntKind.u64.wrap ((UInt8.toNat c : Nat) : Int))) : Nat) : Int) * (1099511628211 : Int))
def Zez (h : Int) : List UInt8 → Int
 | [] => h
 | c :: r => Zez (hstep h c) r
theorem hashL_in : ∀ (l : List UInt8) (h : Int), 0 ≤ h ∧ h < 18446744073709551616 → 0 ≤ Zez h l ∧ Zez h l < 18446744073709551616
 | [], h, hh => hh
 | c :: r, h, _ => hashL_in r _ (by unfold hstep; rw [wrapU]; omega)
theorem Zh1 {l : List UInt8} (hl : l.length ≤ BIG) : ∀ (n k : Nat) (h : Int), l.length - k = n → Q5.l0 l (l.length : Int) h (k : Int) = some (Zez h (l.drop k)) := by
 have hB : BIG = 140737488355328 := rfl
 intro n
 induction n with
 | zero =>
  intro k h hk
  refine Zu ?_
  simp only [Q5.s0, Zg]
  rw [if_neg (by omega), List.drop_eq_nil_of_le (by omega)]
  rfl
 | succ n ih =>
  intro k h hk
  have hlt : k < l.length := by omega
  have e : ((k : Int) + 1) = ((k + 1 : Nat) : Int) := by omega
  rw [List.drop_eq_getElem_cons hlt]
  refine (Zq ?_).trans (ih (k + 1) (hstep h l[k]) (by omega))
  simp only [Q5.s0, Zg]
  rw [if_pos (by omega), Z2 ⟨by omega, by omega⟩, Z2f (by omega) (by omega), Z3e hlt, e]
  rfl
def hexD (R k : Nat) : UInt8 := bt hexCs (((R / 16 ^ k % 16 : Nat)) : Int)
def digs (R : Nat) : Nat → List UInt8
 | 0 => []
 | k + 1 => hexD R k :: digs R k
theorem Zft {α : Type} (a b : α) (t : List α) : ∀ m : Nat, (List.replicate (m + 1) a ++ t).set m b = List.replicate m a ++ b :: t
 | 0 => rfl
 | m + 1 => by
  rw [List.replicate_succ, List.cons_append, List.set_cons_succ, Zft a b t m, List.replicate_succ, List.cons_append]
theorem and15 (x : Nat) (h : x < 18446744073709551616) : IntKind.u64.wrap ((BitVec.toNat (BitVec.ofInt (IntKind.bits .u64) ((x : Nat) : Int) &&& BitVec.ofInt (IntKind.bits .u64) (15 : Int)) : Nat) : Int) = ((x % 16 : Nat) : Int) := by
 have e1 : BitVec.toNat (BitVec.ofInt (IntKind.bits .u64) ((x : Nat) : Int)) = x := by
  rw [BitVec.toNat_ofInt]
  simp only [IntKind.bits]
  omega
 have e2 : BitVec.toNat (BitVec.ofInt (IntKind.bits .u64) (15 : Int)) = 2 ^ 4 - 1 := by decide
 rw [BitVec.toNat_and, e1, e2, Nat.and_two_pow_sub_one_eq_mod, wrapU]
 omega
theorem Zj1 {R : Nat} (hR : R < 18446744073709551616) : ∀ (n i : Nat), 16 - i = n → i ≤ 16 → Q5.l1 16 (((R / 16 ^ i : Nat)) : Int) (i : Int) (List.replicate (16 - i) 0 ++ digs R i) = some (digs R 16) := by
 intro n
 induction n with
 | zero =>
  intro i hn hi
  obtain rfl : i = 16 := by omega
  refine Zu ?_
  simp only [Q5.s1, Zg]
  rw [if_neg (by decide)]
  simp
 | succ n ih =>
  intro i hn hi
  have hlen : (List.replicate (16 - i) (0 : UInt8) ++ digs R i).length = 16 := by
   have : ∀ k, (digs R k).length = k := fun k => by induction k with | zero => rfl | succ k ih => simp [digs, ih]
   rw [List.length_append, this, List.length_replicate]; omega
  have hx : R / 16 ^ i < 18446744073709551616 := Nat.lt_of_le_of_lt (Nat.div_le_self _ _) hR
  refine (Zq ?_).trans (ih (i + 1) (by omega) (by omega))
  have hsz : ((ByteArray.size Qg : Nat) : Int) = 16 := by decide
  have e1 : (Int.toNat ((15 : Int) - (i : Int))) = 15 - i := by omega
  simp only [Q5.s1, Zg, and15 _ hx, hsz, hlen, e1]
  rw [if_pos (by omega), Z2f (by omega) (by omega), Z2 ⟨by omega, by omega⟩, Z2 ⟨by omega, by omega⟩, Z2 (by omega), Z2f (by omega) (by omega)]
  congr 3
  ·rw [Int.fdiv_eq_ediv_of_nonneg _ (by decide)]
   have e2 : (2 : Int) ^ min (Int.toNat (4 : Int)) (IntKind.bits .u64) = ((16 : Nat) : Int) := by decide
   rw [e2, ← Int.natCast_ediv, Nat.div_div_eq_div_mul, Nat.pow_succ]
  ·congr 1
   have e3 : 16 - i = (15 - i) + 1 := by omega
   rw [e3, Zft, show 16 - (i + 1) = 15 - i by omega]
   rfl
def dgB (l : List UInt8) : ByteArray := ⟨(digs (Zez 14695981039346656037 l).toNat 16).toArray⟩
theorem Ze2 (R : Nat) : ∀ k, (digs R k).length = k
 | 0 => rfl
 | k + 1 => by simp [digs, Ze2 R k]
theorem Zja (l : List UInt8) : (dgB l).size = 16 := by
 rw [Zfq]
 simp [dgB, Ze2]
theorem Z7s {l : List UInt8} (hl : l.length ≤ BIG) : Q5.f l = some (dgB l) := by
 have h := Zh1 hl _ 0 14695981039346656037 rfl
 obtain ⟨h1, h2⟩ := hashL_in l 14695981039346656037 (by decide)
 rw [List.drop_zero, show ((0 : Nat) : Int) = 0 from rfl] at h
 obtain ⟨R, hR⟩ := Int.eq_ofNat_of_zero_le h1
 unfold Q5.f
 simp only [h, ob_s]
 rw [Z2 (by decide)]
 have h3 := Zj1 (R := R) (by omega) _ 0 rfl (by decide)
 have e1 : ((List.length (List.replicate (Int.toNat (16 : Int)) (0 : UInt8)) : Nat) : Int) = 16 := by decide
 have e2 : List.replicate (Int.toNat (16 : Int)) (0 : UInt8) = List.replicate (16 - 0) 0 ++ digs R 0 := rfl
 have e3 : (R / 16 ^ 0 : Nat) = R := by simp
 rw [e3] at h3
 rw [e1, e2, hR]
 rw [show (0 : Int) = ((0 : Nat) : Int) from rfl, h3, ob_s]
 unfold dgB
 rw [hR]
 rfl
end Go.Proofs.YtnehieeplbgaiabDoor
set_option linter.unusedVariables false
set_option linter.unusedSimpArgs false
namespace Go.Proofs.YtnehieeplbgaiabDoor
open Go Go.Lib Go.Proofs.YtnehieeplbgaiabDoor.Eng
instance memDec (s : ByteArray) (l : List ByteArray) : Decidable (s ∈ l) := decidable_of_iff (∃ x, x ∈ l ∧ x = s) ⟨fun ⟨x, h, e⟩ => e ▸ h, fun h => ⟨s, h, rfl⟩⟩
def kO (l : List Obj) : List ByteArray := l.map (·.1)
def kP (l : List Par) : List ByteArray := l.map (·.1)
def lbN (l : List ByteArray) (s : ByteArray) : Nat := (l.takeWhile fun x => decide (cmpS x s < 0)).length
theorem lbN_of : ∀ (l : List ByteArray) (s : ByteArray) (c : Nat), c ≤ l.length → (∀ k : Nat, ∀ h : k < l.length, k < c → cmpS l[k] s < 0) → (∀ h : c < l.length, ¬ cmpS l[c] s < 0) → lbN l s = c
 | [], s, c, hc, _, _ => by
  have : c = 0 := by simpa using hc
  subst this; rfl
 | x :: l, s, 0, hc, _, h2 => by
  have := h2 (by simp)
  simp only [List.getElem_cons_zero] at this
  simp [lbN, List.takeWhile_cons, this]
 | x :: l, s, c + 1, hc, h1, h2 => by
  have h0 := h1 0 (by simp) (by omega)
  simp only [List.getElem_cons_zero] at h0
  have ih := lbN_of l s c (by simpa using hc) (fun k h hk => by
   have := h1 (k + 1) (by simpa using h) (by omega)
   simpa using this) (fun h => by
   have := h2 (by simpa using h)
   simpa using this)
  simp only [lbN, List.takeWhile_cons, h0, decide_true, if_true, List.length_cons]
  simp only [lbN] at ih
  rw [ih]
theorem Z8k (l : List ByteArray) (s : ByteArray) : lbN l s ≤ l.length := (List.takeWhile_prefix _).length_le
theorem Zjm {l : List ByteArray} {s : ByteArray} {k : Nat} (h : k < l.length) (hk : k < lbN l s) : cmpS l[k] s < 0 := by
 induction l generalizing k with
 | nil => simp at h
 | cons x l ih =>
  simp only [lbN, List.takeWhile_cons] at hk
  split at hk
  ·rename_i hx
   cases k with
   | zero => simpa using of_decide_eq_true hx
   | succ k =>
    simp only [List.length_cons] at hk
    simpa using ih (by simpa using h) (by simp only [lbN]; omega)
  ·simp at hk
theorem Zjn {l : List ByteArray} {s : ByteArray} (h : lbN l s < l.length) : ¬ cmpS l[lbN l s] s < 0 := by
 induction l with
 | nil => simp [lbN] at h
 | cons x l ih =>
  by_cases hx : cmpS x s < 0
  ·have e : lbN (x :: l) s = lbN l s + 1 := by simp [lbN, List.takeWhile_cons, hx]
   have h' : lbN l s < l.length := by rw [e] at h; simpa using h
   have := ih h'
   simp only [e, List.getElem_cons_succ]
   exact this
  ·have e : lbN (x :: l) s = 0 := by simp [lbN, List.takeWhile_cons, hx]
   simp only [e, List.getElem_cons_zero]
   exact hx
theorem Z7f {l : List ByteArray} (hr : Rising l) {s : ByteArray} : s ∈ l ↔ l[lbN l s]? = some s := by
 constructor
 ·intro hm
  obtain ⟨k, hk, rfl⟩ := List.getElem_of_mem hm
  have e : lbN l l[k] = k := lbN_of l _ k (by omega) (fun j hj hjk => hr j k hk hjk) (fun h => by
   have := (Z2m l[k] l[k]).2 rfl
   omega)
  rw [e, List.getElem?_eq_getElem hk]
 ·exact fun h => List.mem_of_getElem? h
theorem half {a b : Nat} (ha : a ≤ 1000000) (hb : b ≤ 1000000) : IntKind.i64.wrap (Int.fdiv (IntKind.u64.wrap ((a : Int) + (b : Int))) (2 ^ min (Int.toNat (1 : Int)) (IntKind.bits .u64))) = ((a + b) / 2 : Nat) := by
 have e1 : IntKind.u64.wrap ((a : Int) + (b : Int)) = ((a + b : Nat) : Int) := by
  simp only [IntKind.wrap, IntKind.bits, IntKind.signed, Bool.false_and, Bool.false_eq_true, if_false]
  have e : (2 : Int) ^ 64 = 18446744073709551616 := by decide
  rw [e]; omega
 have e2 : (2 : Int) ^ min (Int.toNat (1 : Int)) (IntKind.bits .u64) = 2 := by decide
 rw [e1, e2]
 have e3 : Int.fdiv ((a + b : Nat) : Int) 2 = ((a + b) / 2 : Nat) := by
  rw [Int.fdiv_eq_ediv_of_nonneg _ (by decide)]; omega
 rw [e3]
 exact IntWalk.i64_in _ ⟨by omega, by omega⟩
theorem bs_go {l : List ByteArray} (hr : Rising l) (s : ByteArray) (f : Int × Int → Option ((Int × Int) ⊕ Int))
  (hstep : ∀ a b : Nat, a < b → b ≤ l.length → ∀ h : (a + b) / 2 < l.length, f ((a : Int), (b : Int)) = some (.inl (if cmpS l[(a + b) / 2] s < 0 then ((((a + b) / 2 + 1 : Nat) : Int), (b : Int)) else ((a : Int), (((a + b) / 2 : Nat) : Int))))) (hend : ∀ a : Nat, f ((a : Int), (a : Int)) = some (.inr (a : Int))) :
  Z1i f (0, (l.length : Int)) = some ((lbN l s : Nat) : Int) := by
 have go : ∀ (n a b : Nat), b - a = n → a ≤ b → b ≤ l.length → (∀ k : Nat, ∀ h : k < l.length, k < a → cmpS l[k] s < 0) → (∀ k : Nat, ∀ h : k < l.length, b ≤ k → ¬ cmpS l[k] s < 0) → Z1i f ((a : Int), (b : Int)) = some ((lbN l s : Nat) : Int) := by
  intro n
  induction n using Nat.strongRecOn with
  | _ n ih =>
   intro a b hn hab hb h1 h2
   rcases Nat.lt_or_ge a b with hlt | hge
   ·have hm : (a + b) / 2 < l.length := by omega
    have hs := hstep a b hlt hb hm
    by_cases hc : cmpS l[(a + b) / 2] s < 0
    ·rw [if_pos hc] at hs
     refine (Zq hs).trans (ih (b - ((a + b) / 2 + 1)) (by omega) ((a + b) / 2 + 1) b rfl (by omega) hb (fun k hk hka => ?_) h2)
     rcases Nat.lt_or_ge k ((a + b) / 2) with h | h
     ·exact Z35 (hr k _ hm h) hc
     ·have : k = (a + b) / 2 := by omega
      subst this; exact hc
    ·rw [if_neg hc] at hs
     refine (Zq hs).trans (ih ((a + b) / 2 - a) (by omega) a ((a + b) / 2) rfl (by omega) (by omega) h1 (fun k hk hka h => ?_))
     rcases Nat.lt_or_ge ((a + b) / 2) k with h5 | h5
     ·exact hc (Z35 (hr _ k hk h5) h)
     ·have : k = (a + b) / 2 := by omega
      subst this; exact hc h
   ·have e : a = b := by omega
    subst e
    rw [Zu (hend a), lbN_of l s a hb h1 (fun h => h2 a h (Nat.le_refl _))]
 exact go _ 0 l.length rfl (Nat.zero_le _) (Nat.le_refl _) (fun k _ h => absurd h (Nat.not_lt_zero _)) (fun k hk h => by omega)
theorem Ze1 (o : Obj) (s : ByteArray) : Qm.f o s = some (cmpS o.1 s) := rfl
theorem Zdl (o : Par) (s : ByteArray) : Qo.f o s = some (cmpS o.1 s) := rfl
theorem Z7j {l : List Obj} {k : Nat} (h : k < (kO l).length) : (kO l)[k] = (l[k]'(by simpa [kO] using h)).1 := by simp [kO]
theorem Z7i {l : List Par} {k : Nat} (h : k < (kP l).length) : (kP l)[k] = (l[k]'(by simpa [kP] using h)).1 := by simp [kP]
theorem Z42 {r : Rcv} (hl : r.1.length ≤ 1000000) (hr : Rising (kO r.1)) (s : ByteArray) : Qe.f r s = some (((lbN (kO r.1) s : Nat) : Int), decide (s ∈ kO r.1)) := by
 have hlen : (kO r.1).length = r.1.length := by simp [kO]
 have h := bs_go hr s (fun x => Q1.s0 r.1 s x.1 x.2) (fun a b hab hb hm => by
  have hm' : (a + b) / 2 < r.1.length := by omega
  simp only [Q1.s0, Zg, half (a := a) (b := b) (by omega) (by omega), Z3e hm', Ze1, ob_s]
  rw [if_pos (by omega), Z2f (by omega) (by omega), Z2 (by omega), Z7j]
  by_cases hc : cmpS r.1[(a + b) / 2].1 s < 0
  ·rw [if_pos hc, if_pos hc, Z2f (by omega) (by omega)]; rfl
  ·rw [if_neg hc, if_neg hc]) (fun a => by
  simp only [Q1.s0, Zg]
  rw [if_neg (by omega)])
 rw [hlen] at h
 have hle := Z8k (kO r.1) s
 unfold Qe.f Q1.f
 simp only
 rw [show Q1.l0 r.1 s (0 : Int) (r.1.length : Int) = some ((lbN (kO r.1) s : Nat) : Int) from h, ob_s, Zg]
 by_cases hc : lbN (kO r.1) s < r.1.length
 ·rw [if_pos (by omega), Z2 (by omega), Z3e hc, Ze1, ob_s, ob_s]
  have hc' : lbN (kO r.1) s < (kO r.1).length := by omega
  have e : (decide (cmpS r.1[lbN (kO r.1) s].1 s = 0)) = decide (s ∈ kO r.1) := decide_eq_decide.2 (by
   rw [Z7f hr, Z2m, List.getElem?_eq_getElem hc', Z7j, Option.some.injEq])
  rw [e]
 ·rw [if_neg (by omega), ob_s]
  have e : decide (s ∈ kO r.1) = false := decide_eq_false (by
   rw [Z7f hr, List.getElem?_eq_none (by omega)]; simp)
  rw [e]
theorem Zb3 {r : Rcv} (hl : r.2.length ≤ 1000000) (hr : Rising (kP r.2)) (s : ByteArray) : Qi.f r s = some (((lbN (kP r.2) s : Nat) : Int), decide (s ∈ kP r.2)) := by
 have hlen : (kP r.2).length = r.2.length := by simp [kP]
 have h := bs_go hr s (fun x => Q0.s0 r.2 s x.1 x.2) (fun a b hab hb hm => by
  have hm' : (a + b) / 2 < r.2.length := by omega
  simp only [Q0.s0, Zg, half (a := a) (b := b) (by omega) (by omega), Z3e hm', Zdl, ob_s]
  rw [if_pos (by omega), Z2f (by omega) (by omega), Z2 (by omega), Z7i]
  by_cases hc : cmpS r.2[(a + b) / 2].1 s < 0
  ·rw [if_pos hc, if_pos hc, Z2f (by omega) (by omega)]; rfl
  ·rw [if_neg hc, if_neg hc]) (fun a => by
  simp only [Q0.s0, Zg]
  rw [if_neg (by omega)])
 rw [hlen] at h
 have hle := Z8k (kP r.2) s
 unfold Qi.f Q0.f
 simp only
 rw [show Q0.l0 r.2 s (0 : Int) (r.2.length : Int) = some ((lbN (kP r.2) s : Nat) : Int) from h, ob_s, Zg]
 by_cases hc : lbN (kP r.2) s < r.2.length
 ·rw [if_pos (by omega), Z2 (by omega), Z3e hc, Zdl, ob_s, ob_s]
  have hc' : lbN (kP r.2) s < (kP r.2).length := by omega
  have e : (decide (cmpS r.2[lbN (kP r.2) s].1 s = 0)) = decide (s ∈ kP r.2) := decide_eq_decide.2 (by
   rw [Z7f hr, Z2m, List.getElem?_eq_getElem hc', Z7i, Option.some.injEq])
  rw [e]
 ·rw [if_neg (by omega), ob_s]
  have e : decide (s ∈ kP r.2) = false := decide_eq_false (by
   rw [Z7f hr, List.getElem?_eq_none (by omega)]; simp)
  rw [e]
def fstF (F : Nat → Int) : Nat → Int
 | 0 => 0
 | n + 1 => if fstF F n = 0 then F n else fstF F n
theorem Z41 {F : Nat → Int} : ∀ {n : Nat}, fstF F n = 0 ↔ ∀ k, k < n → F k = 0
 | 0 => ⟨fun _ k h => by omega, fun _ => rfl⟩
 | n + 1 => by
  have ih := @Z41 F n
  unfold fstF
  constructor
  ·intro h k hk
   by_cases h0 : fstF F n = 0
   ·rw [if_pos h0] at h
    rcases Nat.lt_or_ge k n with h1 | h1
    ·exact ih.1 h0 k h1
    ·have : k = n := by omega
     subst this; exact h
   ·rw [if_neg h0] at h; exact absurd h h0
  ·intro h
   rw [if_pos (ih.2 fun k hk => h k (by omega))]
   exact h n (by omega)
theorem Zh5 {F : Nat → Int} {k : Nat} (h0 : fstF F k = 0) (hk : F k ≠ 0) : ∀ {n : Nat}, k < n → fstF F n = F k
 | 0, h => by omega
 | n + 1, h => by
  unfold fstF
  rcases Nat.lt_or_ge k n with h1 | h1
  ·rw [Zh5 h0 hk h1, if_neg hk]
  ·have : k = n := by omega
   subst this; rw [if_pos h0]
def fltR (e : Int) : Int ⊕ Unit := if e = 0 then .inr () else .inl e
theorem Zh4 {n : Nat} (F : Nat → Int) (f : Int → Option (Int ⊕ (Int ⊕ Unit))) (hend : f (n : Int) = some (.inr (.inr ()))) (hno : ∀ k : Nat, k < n → fstF F k = 0 → F k ≠ 0 → f (k : Int) = some (.inr (.inl (F k)))) (hyes : ∀ k : Nat, k < n → fstF F k = 0 → F k = 0 → f (k : Int) = some (.inl ((k : Int) + 1))) :
  Z1i f 0 = some (fltR (fstF F n)) := by
 have go : ∀ (m k : Nat), n - k = m → k ≤ n → fstF F k = 0 → Z1i f (k : Int) = some (fltR (fstF F n)) := by
  intro m
  induction m with
  | zero =>
   intro k hm hk h0
   obtain rfl : k = n := by omega
   rw [Zu hend, h0]; rfl
  | succ m ih =>
   intro k hm hk h0
   by_cases hF : F k = 0
   ·refine (Zq (hyes k (by omega) h0 hF)).trans ?_
    have := ih (k + 1) (by omega) (by omega) (by unfold fstF; rw [if_pos h0]; exact hF)
    simpa using this
   ·rw [Zu (hno k (by omega) h0 hF), Zh5 h0 hF (by omega)]
    unfold fltR
    rw [if_neg hF]
 exact go n 0 (by omega) (by omega) rfl
def Z1u (l : List ByteArray) (i : Nat) (s : ByteArray) : Bool := match i with
 | 0 => false
 | i + 1 => match l[i]? with | some x => decide (cmpS s x ≤ 0) | none => false
def objF (l : List Obj) (i : Nat) : Int := match l[i]? with
 | some o => if o.1 = dgB o.2 then (if 2000000 < o.2.length then 2 else if Z1u (kO l) i o.1 = true then 8 else 0) else 15
 | none => 0
def chkO (l : List Obj) : Int := if 4000 < l.length then 2 else fstF (objF l) l.length
def parF (r : Rcv) (i : Nat) : Int := match r.2[i]? with
 | some p => if digB p.1 = true then (if 0 ≤ p.2.1 ∧ p.2.1 ≤ 100000 then (if p.2.1 ≤ (p.2.2.length : Int) then 2 else if p.1 ∈ kO r.1 then 7 else if Z1u (kP r.2) i p.1 = true then 8 else 0) else 1) else 3
 | none => 0
def chkR (r : Rcv) : Int := if chkO r.1 = 0 then (if 100 < r.2.length then 2 else fstF (parF r) r.2.length) else chkO r.1
def szO (l : List Obj) : Prop := ∀ o ∈ l, o.2.length ≤ BIG
theorem Za8 {l : List Obj} (hs : szO l) : Q7.f l = some (chkO l) := by
 unfold Q7.f chkO
 simp only [Zg]
 by_cases h0 : 4000 < l.length
 ·rw [if_pos (by omega), if_pos h0]
 ·rw [if_neg (by omega), if_neg h0]
  have h := Zh4 (n := l.length) (objF l) (fun x => Q7.s0 l l (l.length : Int) x) (by
   simp only [Q7.s0, Zg]; rw [if_neg (by omega)]) (fun k hk _ hF => by
   have hd := Z7s (hs _ (List.getElem_mem hk))
   unfold objF at hF ⊢
   rw [List.getElem?_eq_getElem hk] at hF ⊢
   simp only at hF ⊢
   simp only [Q7.s0, Zg, Z3e hk, hd, ob_s, Z20, Z9n]
   rw [if_pos (by omega), Z2 (by omega)]
   by_cases h1 : l[k].1 = dgB l[k].2
   ·rw [if_pos h1] at hF
    rw [if_pos h1, if_pos h1]
    by_cases h2 : 2000000 < l[k].2.length
    ·rw [if_pos (by omega), if_pos h2]
    ·rw [if_neg h2] at hF
     rw [if_neg (by omega), if_neg h2]
     cases k with
     | zero => exact absurd (by simp [Z1u]) hF
     | succ k =>
      have hk1 : k < l.length := by omega
      have e1 : (((k + 1 : Nat) : Int) - 1) = (k : Int) := by omega
      rw [if_pos (by omega), e1, Z2f (by omega) (by omega), Z2 (by omega), Z3e hk1]
      have e2 : Z1u (kO l) (k + 1) l[k + 1].1 = decide (cmpS l[k + 1].1 l[k].1 ≤ 0) := by
       have : k < (kO l).length := by simpa [kO] using hk1
       simp only [Z1u, List.getElem?_eq_getElem this, Z7j]
      rw [e2] at hF ⊢
      by_cases h3 : cmpS l[k + 1].1 l[k].1 ≤ 0
      ·rw [if_pos h3, if_pos (by simpa using h3)]
      ·rw [if_neg (by simpa using h3)] at hF; exact absurd rfl hF
   ·rw [if_neg h1, if_neg h1]) (fun k hk _ hF => by
   have hd := Z7s (hs _ (List.getElem_mem hk))
   unfold objF at hF
   rw [List.getElem?_eq_getElem hk] at hF
   simp only at hF
   simp only [Q7.s0, Zg, Z3e hk, hd, ob_s, Z20, Z9n]
   rw [if_pos (by omega), Z2 (by omega)]
   by_cases h1 : l[k].1 = dgB l[k].2
   ·rw [if_pos h1] at hF
    rw [if_pos h1]
    by_cases h2 : 2000000 < l[k].2.length
    ·rw [if_pos h2] at hF; cases hF
    ·rw [if_neg h2] at hF
     rw [if_neg (by omega)]
     cases k with
     | zero => rw [if_neg (by omega), Z2f (by omega) (by omega)]
     | succ k =>
      have hk1 : k < l.length := by omega
      have e1 : (((k + 1 : Nat) : Int) - 1) = (k : Int) := by omega
      rw [if_pos (by omega), e1, Z2f (by omega) (by omega), Z2 (by omega), Z3e hk1]
      have e2 : Z1u (kO l) (k + 1) l[k + 1].1 = decide (cmpS l[k + 1].1 l[k].1 ≤ 0) := by
       have : k < (kO l).length := by simpa [kO] using hk1
       simp only [Z1u, List.getElem?_eq_getElem this, Z7j]
      rw [e2] at hF
      by_cases h3 : cmpS l[k + 1].1 l[k].1 ≤ 0
      ·rw [if_pos (by simpa using h3)] at hF; cases hF
      ·rw [if_neg h3, Z2f (by omega) (by omega)]
   ·rw [if_neg h1] at hF; cases hF)
  have h' : Q7.l0 l l (l.length : Int) 0 = some (fltR (fstF (objF l) l.length)) := h
  rw [h', ob_s]
  unfold fltR
  by_cases e : fstF (objF l) l.length = 0
  ·rw [if_pos e, Z7y, e]
  ·rw [if_neg e, Zd6]
end Go.Proofs.YtnehieeplbgaiabDoor
set_option linter.unusedVariables false
set_option linter.unusedSimpArgs false
namespace Go.Proofs.YtnehieeplbgaiabDoor
open Go Go.Lib Go.Proofs.YtnehieeplbgaiabDoor.Eng
theorem Z8m (l : List Obj) : (kO l).length = l.length := by simp [kO]
theorem Zbp (l : List Par) : (kP l).length = l.length := by simp [kP]
theorem Z3c {l : List ByteArray} : Rising l ↔ ∀ k : Nat, ∀ h : k < l.length, Z1u l k l[k] = false := by
 constructor
 ·intro hr k hk
  cases k with
  | zero => rfl
  | succ k =>
   have h := hr k (k + 1) hk (by omega)
   have h1 : k < l.length := by omega
   simp only [Z1u, List.getElem?_eq_getElem h1]
   have hs := Z5p l[k] l[k + 1]
   exact decide_eq_false (by omega)
 ·intro h
  refine Zcr fun k hk => ?_
  have := h (k + 1) hk
  have h1 : k < l.length := by omega
  simp only [Z1u, List.getElem?_eq_getElem h1] at this
  have hs := Z5p l[k] l[k + 1]
  have := of_decide_eq_false this
  omega
structure GoodO (l : List Obj) : Prop where
 len : l.length ≤ 4000
 dig : ∀ o ∈ l, o.1 = dgB o.2
 sz : ∀ o ∈ l, o.2.length ≤ 2000000
 ris : Rising (kO l)
structure Good (r : Rcv) : Prop where
 done : GoodO r.1
 len : r.2.length ≤ 100
 dig : ∀ p ∈ r.2, digB p.1 = true
 sz : ∀ p ∈ r.2, 0 ≤ p.2.1 ∧ p.2.1 ≤ 100000 ∧ (p.2.2.length : Int) < p.2.1
 not : ∀ p ∈ r.2, p.1 ∉ kO r.1
 ris : Rising (kP r.2)
theorem Z7v {l : List Obj} : chkO l = 0 ↔ GoodO l := by
 unfold chkO
 constructor
 ·intro h
  split at h
  ·cases h
  ·rename_i hl
   rw [Z41] at h
   have key : ∀ k : Nat, ∀ hk : k < l.length, l[k].1 = dgB l[k].2 ∧ l[k].2.length ≤ 2000000 ∧ Z1u (kO l) k l[k].1 = false := fun k hk => by
    have := h k hk
    unfold objF at this
    rw [List.getElem?_eq_getElem hk] at this
    simp only at this
    split at this
    ·rename_i h1
     split at this
     ·cases this
     ·rename_i h2
      split at this
      ·cases this
      ·rename_i h3
       exact ⟨h1, by omega, by simpa using h3⟩
    ·cases this
   refine ⟨by omega, fun o ho => ?_, fun o ho => ?_, Z3c.2 fun k hk => ?_⟩
   ·obtain ⟨k, hk, rfl⟩ := List.getElem_of_mem ho; exact (key k hk).1
   ·obtain ⟨k, hk, rfl⟩ := List.getElem_of_mem ho; exact (key k hk).2.1
   ·have hk' : k < l.length := by rwa [Z8m] at hk
    rw [Z7j]; exact (key k hk').2.2
 ·intro g
  rw [if_neg (by have := g.len; omega), Z41]
  intro k hk
  unfold objF
  rw [List.getElem?_eq_getElem hk]
  have hm := List.getElem_mem hk
  have h1 := Z3c.1 g.ris k (by rw [Z8m]; exact hk)
  rw [Z7j] at h1
  simp only
  rw [if_pos (g.dig _ hm), if_neg (by have := g.sz _ hm; omega), if_neg (by rw [h1]; simp)]
theorem Z5q {r : Rcv} : chkR r = 0 ↔ Good r := by
 unfold chkR
 constructor
 ·intro h
  split at h
  ·rename_i h0
   split at h
   ·cases h
   ·rename_i hl
    rw [Z41] at h
    have key : ∀ k : Nat, ∀ hk : k < r.2.length, digB r.2[k].1 = true ∧ (0 ≤ r.2[k].2.1 ∧ r.2[k].2.1 ≤ 100000 ∧ (r.2[k].2.2.length : Int) < r.2[k].2.1) ∧ r.2[k].1 ∉ kO r.1 ∧ Z1u (kP r.2) k r.2[k].1 = false := fun k hk => by
     have := h k hk
     unfold parF at this
     rw [List.getElem?_eq_getElem hk] at this
     simp only at this
     split at this
     ·rename_i h1
      split at this
      ·rename_i h2
       split at this
       ·cases this
       ·rename_i h3
        split at this
        ·cases this
        ·rename_i h4
         split at this
         ·cases this
         ·rename_i h5
          exact ⟨h1, ⟨h2.1, h2.2, by omega⟩, h4, by simpa using h5⟩
      ·cases this
     ·cases this
    refine ⟨Z7v.1 h0, by omega, fun o ho => ?_, fun o ho => ?_, fun o ho => ?_, Z3c.2 fun k hk => ?_⟩
    ·obtain ⟨k, hk, rfl⟩ := List.getElem_of_mem ho; exact (key k hk).1
    ·obtain ⟨k, hk, rfl⟩ := List.getElem_of_mem ho; exact (key k hk).2.1
    ·obtain ⟨k, hk, rfl⟩ := List.getElem_of_mem ho; exact (key k hk).2.2.1
    ·have hk' : k < r.2.length := by rwa [Zbp] at hk
     rw [Z7i]; exact (key k hk').2.2.2
  ·rename_i h0; exact absurd h h0
 ·intro g
  rw [if_pos (Z7v.2 g.done), if_neg (by have := g.len; omega), Z41]
  intro k hk
  unfold parF
  rw [List.getElem?_eq_getElem hk]
  have hm := List.getElem_mem hk
  have h1 := Z3c.1 g.ris k (by rw [Zbp]; exact hk)
  rw [Z7i] at h1
  obtain ⟨s1, s2, s3⟩ := g.sz _ hm
  simp only
  rw [if_pos (g.dig _ hm), if_pos ⟨s1, s2⟩, if_neg (by omega), if_neg (g.not _ hm), if_neg (by rw [h1]; simp)]
theorem Z2r {r : Rcv} (hs : szO r.1) : Q3.f r = some (chkR r) := by
 unfold Q3.f chkR
 simp only [Za8 hs, ob_s, Z20, Zg]
 by_cases h0 : chkO r.1 = 0
 ·rw [if_pos h0, if_pos h0]
  by_cases h1 : 100 < r.2.length
  ·rw [if_pos (by omega), if_pos h1]
  ·rw [if_neg (by omega), if_neg h1]
   have g := Z7v.1 h0
   have hlo : r.1.length ≤ 1000000 := by have := g.len; omega
   have e1 : ∀ k : Nat, (((k + 1 : Nat) : Int) - 1) = (k : Int) := fun k => by omega
   have h := Zh4 (n := r.2.length) (parF r) (fun x => Q3.s0 r r.2 (r.2.length : Int) x) (by
    simp only [Q3.s0, Zg]; rw [if_neg (by omega)]) (fun k hk _ hF => by
    unfold parF at hF ⊢
    rw [List.getElem?_eq_getElem hk] at hF ⊢
    simp only at hF ⊢
    simp only [Q3.s0, Z3e hk, Z3l, Z27, Z42 hlo g.ris, ob_s, Z20, Z9n]
    simp only [cb_if, decide_eq_true_eq]
    rw [if_pos (by omega), Z2 (by omega)]
    by_cases c1 : digB r.2[k].1 = true
    ·rw [if_pos c1] at hF; rw [if_pos c1, if_pos c1]
     by_cases c2 : 0 ≤ r.2[k].2.1 ∧ r.2[k].2.1 ≤ 100000
     ·rw [if_pos c2] at hF; rw [if_pos c2, if_pos c2]
      by_cases c3 : r.2[k].2.1 ≤ (r.2[k].2.2.length : Int)
      ·rw [if_pos c3, if_pos c3]
      ·rw [if_neg c3] at hF; rw [if_neg c3, if_neg c3]
       by_cases c4 : r.2[k].1 ∈ kO r.1
       ·rw [if_pos c4, if_pos c4]
       ·rw [if_neg c4] at hF; rw [if_neg c4, if_neg c4]
        cases k with
        | zero => exact absurd (by simp [Z1u]) hF
        | succ k =>
         have hk1 : k < r.2.length := by omega
         have e2 : Z1u (kP r.2) (k + 1) r.2[k + 1].1 = decide (cmpS r.2[k + 1].1 r.2[k].1 ≤ 0) := by
          have : k < (kP r.2).length := by simpa [kP] using hk1
          simp only [Z1u, List.getElem?_eq_getElem this, Z7i]
         rw [e2] at hF ⊢
         rw [if_pos (by omega), e1, Z2f (by omega) (by omega), Z2 (by omega), Z3e hk1]
         by_cases c5 : cmpS r.2[k + 1].1 r.2[k].1 ≤ 0
         ·rw [if_pos c5, if_pos (by simpa using c5)]
         ·rw [if_neg (by simpa using c5)] at hF; exact absurd rfl hF
     ·rw [if_neg c2, if_neg c2]
    ·rw [if_neg c1, if_neg c1]) (fun k hk _ hF => by
    unfold parF at hF
    rw [List.getElem?_eq_getElem hk] at hF
    simp only at hF
    simp only [Q3.s0, Z3e hk, Z3l, Z27, Z42 hlo g.ris, ob_s, Z20, Z9n]
    simp only [cb_if, decide_eq_true_eq]
    rw [if_pos (by omega), Z2 (by omega)]
    by_cases c1 : digB r.2[k].1 = true
    ·rw [if_pos c1] at hF; rw [if_pos c1]
     by_cases c2 : 0 ≤ r.2[k].2.1 ∧ r.2[k].2.1 ≤ 100000
     ·rw [if_pos c2] at hF; rw [if_pos c2]
      by_cases c3 : r.2[k].2.1 ≤ (r.2[k].2.2.length : Int)
      ·rw [if_pos c3] at hF; cases hF
      ·rw [if_neg c3] at hF; rw [if_neg c3]
       by_cases c4 : r.2[k].1 ∈ kO r.1
       ·rw [if_pos c4] at hF; cases hF
       ·rw [if_neg c4] at hF; rw [if_neg c4]
        cases k with
        | zero => rw [if_neg (by omega), Z2f (by omega) (by omega)]
        | succ k =>
         have hk1 : k < r.2.length := by omega
         have e2 : Z1u (kP r.2) (k + 1) r.2[k + 1].1 = decide (cmpS r.2[k + 1].1 r.2[k].1 ≤ 0) := by
          have : k < (kP r.2).length := by simpa [kP] using hk1
          simp only [Z1u, List.getElem?_eq_getElem this, Z7i]
         rw [e2] at hF
         rw [if_pos (by omega), e1, Z2f (by omega) (by omega), Z2 (by omega), Z3e hk1]
         by_cases c5 : cmpS r.2[k + 1].1 r.2[k].1 ≤ 0
         ·rw [if_pos (by simpa using c5)] at hF; cases hF
         ·rw [if_neg c5, Z2f (by omega) (by omega)]
     ·rw [if_neg c2] at hF; cases hF
    ·rw [if_neg c1] at hF; cases hF)
   have h' : Q3.l0 r r.2 (r.2.length : Int) 0 = some (fltR (fstF (parF r) r.2.length)) := h
   rw [h', ob_s]
   unfold fltR
   by_cases e : fstF (parF r) r.2.length = 0
   ·rw [if_pos e, Z7y, e]
   ·rw [if_neg e, Zd6]
 ·rw [if_neg h0, if_neg h0]
theorem Zdi {α : Type} {l : List α} {k : Nat} {x : α} (h : l[k]? = some x) : l.set k x = l := by
 obtain ⟨hk, rfl⟩ := List.getElem?_eq_some_iff.1 h
 exact List.set_getElem_self hk
theorem Z64 {α : Type} {l : List α} {k : Nat} {x d : α} (h : l[k]? = some x) : List.getD l k d = x := by rw [List.getD, h]; rfl
theorem own_eq {r : Rcv} (g : Good r) : Qa.f r = some r := by
 have hB : BIG = 140737488355328 := rfl
 have g1 := g.done.len
 have g2 := g.len
 have l0 : ∀ (n k : Nat), r.1.length - k = n → k ≤ r.1.length → Qa.l0 (r.1.length : Int) (k : Int) [] [] r.1 r.2 = some ([], [], r.1, r.2) := by
  intro n
  induction n with
  | zero =>
   intro k hn hk
   refine Zu ?_
   simp only [Qa.s0, Zg]
   rw [if_neg (by omega)]
  | succ n ih =>
   intro k hn hk
   have hlt : k < r.1.length := by omega
   have hgk : r.1[k]? = some r.1[k] := List.getElem?_eq_getElem hlt
   have hsz : r.1[k].2.length ≤ BIG := by have := g.done.sz _ (List.getElem_mem hlt); omega
   refine (Zq ?_).trans (ih (k + 1) (by omega) (by omega))
   simp only [Qa.s0, Zg, Int.toNat_natCast, Z64 hgk, Zjt hsz, ob_s]
   rw [if_pos (by omega), Z2 (by omega), Z2 hlt, Z2 (by omega), Z2 hlt, Z2f (by omega) (by omega), Zdi hgk]
   rfl
 have l1 : ∀ (n k : Nat), r.2.length - k = n → k ≤ r.2.length → Qa.l1 (r.2.length : Int) (k : Int) [] [] r.1 r.2 (k : Int) = some ([], [], r.1, r.2, (r.2.length : Int)) := by
  intro n
  induction n with
  | zero =>
   intro k hn hk
   obtain rfl : k = r.2.length := by omega
   refine Zu ?_
   simp only [Qa.s1, Zg, Int.toNat_natCast]
   rw [if_neg (by omega)]
  | succ n ih =>
   intro k hn hk
   have hlt : k < r.2.length := by omega
   have hgk : r.2[k]? = some r.2[k] := List.getElem?_eq_getElem hlt
   have hsz : r.2[k].2.2.length ≤ BIG := by have := g.sz _ (List.getElem_mem hlt); omega
   refine (Zq ?_).trans (ih (k + 1) (by omega) (by omega))
   simp only [Qa.s1, Zg, Int.toNat_natCast, Z64 hgk, Zjt hsz, ob_s]
   rw [if_pos (by omega), Z2 (by omega), Z2 hlt, Z2 ⟨hlt, Nat.le_refl _⟩, Z2 (by omega), Z2 hlt, Z2 ⟨trivial, hlt⟩, Z2f (by omega) (by omega), Zdi hgk]
   rfl
 unfold Qa.f
 simp only [cloneO (show r.1.length ≤ 1000000 by omega), cloneP (show r.2.length ≤ 1000000 by omega), ob_s]
 have h0 := l0 _ 0 rfl (Nat.zero_le _)
 have h1 := l1 _ 0 rfl (Nat.zero_le _)
 rw [show ((0 : Nat) : Int) = 0 from rfl] at h0 h1
 rw [h0]
 simp only [ob_s]
 rw [show (((0 : Nat) : Int)) = 0 from rfl, h1, ob_s, Z2 (by simp)]
end Go.Proofs.YtnehieeplbgaiabDoor
set_option linter.unusedVariables false
set_option linter.unusedSimpArgs false
namespace Go.Proofs.YtnehieeplbgaiabDoor
open Go Go.Lib Go.Proofs.YtnehieeplbgaiabDoor.Eng
def ans (k : Int) (d : ByteArray) (n : Int) : Msg := (k, (d, (n, (0, []))))
def noM : Msg := (0, (bs_, (0, (0, []))))
abbrev Out := Msg × (Int × Rcv)
def Z3v (d : ByteArray) (b : List UInt8) (r : Rcv) : Out :=
 if dgB b = d then (if 4000 ≤ r.1.length then (noM, (16, r)) else (ans 4 d 0, (0, (insL r.1 (lbN (kO r.1) d) (d, b), r.2)))) else (ans 5 d 0, (0, r))
def partD : Par := (ByteArray.empty, ((0 : Int), []))
def pAt (r : Rcv) (d : ByteArray) : Par := List.getD r.2 (lbN (kP r.2) d) partD
def Z10 (r : Rcv) (d : ByteArray) : Rcv := if d ∈ kP r.2 then (r.1, delL r.2 (lbN (kP r.2) d)) else r
def Z8x (m : Msg) (r : Rcv) : Out :=
 if m.2.1 ∈ kP r.2 ∧ (pAt r m.2.1).2.1 = m.2.2.2.1 then (ans 3 m.2.1 ((pAt r m.2.1).2.2.length : Int), (0, r)) else
 if m.2.2.2.1 = 0 then Z3v m.2.1 [] (Z10 r m.2.1) else
 if 100 ≤ (Z10 r m.2.1).2.length then (noM, (16, Z10 r m.2.1)) else
 if 100000 < m.2.2.2.1 then (noM, (1, Z10 r m.2.1)) else
 (ans 3 m.2.1 0, (0, (r.1, insL (Z10 r m.2.1).2 (lbN (kP r.2) m.2.1) (m.2.1, (m.2.2.2.1, [])))))
def Z4u (m : Msg) (p : Par) : List UInt8 := p.2.2 ++ m.2.2.2.2.drop (min m.2.2.2.2.length (p.2.2.length - m.2.2.1.toNat))
def Zhk (m : Msg) (r : Rcv) : Out :=
 if ((pAt r m.2.1).2.2.length : Int) < m.2.2.1 then (noM, (8, r)) else
 if ¬ (m.2.2.2.2.take ((pAt r m.2.1).2.2.length - m.2.2.1.toNat) = ((pAt r m.2.1).2.2.drop m.2.2.1.toNat).take m.2.2.2.2.length) then (noM, (12, r)) else
 if (pAt r m.2.1).2.1 < m.2.2.1 + (m.2.2.2.2.length : Int) then (noM, (2, r)) else
 if ((Z4u m (pAt r m.2.1)).length : Int) < (pAt r m.2.1).2.1 then
  (ans 3 m.2.1 ((Z4u m (pAt r m.2.1)).length : Int), (0, (r.1, r.2.set (lbN (kP r.2) m.2.1) ((pAt r m.2.1).1, ((pAt r m.2.1).2.1, Z4u m (pAt r m.2.1))))))
 else Z3v m.2.1 (Z4u m (pAt r m.2.1)) (r.1, delL (r.2.set (lbN (kP r.2) m.2.1) ((pAt r m.2.1).1, ((pAt r m.2.1).2.1, Z4u m (pAt r m.2.1)))) (lbN (kP r.2) m.2.1))
noncomputable def msgF (m : Msg) : Int := chkF (digB m.2.1) m.1 m.2.2.1 m.2.2.2.1 (m.2.2.2.2.length : Int)
noncomputable def Z57 (m : Msg) (r : Rcv) : Out :=
 if msgF m = 0 then
  (if m.1 = 1 ∨ m.1 = 2 ∨ m.1 = 6 then
   (if m.2.1 ∈ kO r.1 then (ans 4 m.2.1 0, (0, r)) else
    if m.1 = 1 then Z8x m r else
    if m.2.1 ∈ kP r.2 then (if m.1 = 2 then Zhk m r else (ans 3 m.2.1 ((pAt r m.2.1).2.2.length : Int), (0, r))) else (noM, (9, r)))
   else (noM, (4, r)))
 else (noM, (msgF m, r))
noncomputable def Zi0 (r : Rcv) (m : Msg) : Rcv × (Msg × Int) :=
 if chkR r = 0 then (if (Z57 m r).2.1 = 0 then ((Z57 m r).2.2, ((Z57 m r).1, 0)) else (([], []), (noM, (Z57 m r).2.1))) else (([], []), (noM, chkR r))
structure Ok (r : Rcv) : Prop where
 done : GoodO r.1
 len : r.2.length ≤ 100
 sz : ∀ p ∈ r.2, 0 ≤ p.2.1 ∧ p.2.1 ≤ 100000 ∧ (p.2.2.length : Int) < p.2.1
 ris : Rising (kP r.2)
theorem Good.ok {r : Rcv} (g : Good r) : Ok r := ⟨g.done, g.len, g.sz, g.ris⟩
theorem Zd9 {d : ByteArray} {b : List UInt8} {r : Rcv} (hb : b.length ≤ BIG) (g : GoodO r.1) : Qj.f d b r.1 r.2 = some (Z3v d b r) := by
 have g1 := g.len
 have hlo : r.1.length ≤ 1000000 := by omega
 have hle := Z8k (kO r.1) d
 rw [Z8m] at hle
 unfold Qj.f Z3v
 simp only [Z7s hb, ob_s, Z20, Zg]
 by_cases h1 : dgB b = d
 ·rw [if_pos h1, if_pos h1]
  by_cases h2 : 4000 ≤ r.1.length
  ·rw [if_pos (by omega), if_pos h2]; rfl
  ·rw [if_neg (by omega), if_neg h2]
   rw [show Qe.f (r.1, r.2) d = _ from Z42 (r := (r.1, r.2)) hlo g.ris d, ob_s]
   simp only [Int.toNat_natCast]
   rw [Z2 (by omega)]
   rfl
 ·rw [if_neg h1, if_neg h1]; rfl
theorem whole1_eq : @Qn.f = @Qj.f := rfl
theorem Zge {β : Type} (s : Tr) (t : Option β) : mix s t = t := mix_eq s t
theorem Z6x {α : Type} {l : List α} {k : Nat} (h : k < l.length) : (delL l k).length = l.length - 1 := by simp [delL]; omega
theorem Z79 {r : Rcv} {d : ByteArray} (hr : Rising (kP r.2)) (h : d ∈ kP r.2) : ∃ hk : lbN (kP r.2) d < r.2.length, pAt r d = r.2[lbN (kP r.2) d] ∧ r.2[lbN (kP r.2) d].1 = d := by
 have h1 := (Z7f hr).1 h
 obtain ⟨h2, h3⟩ := List.getElem?_eq_some_iff.1 h1
 have h2' : lbN (kP r.2) d < r.2.length := by rwa [Zbp] at h2
 refine ⟨h2', ?_, ?_⟩
 ·unfold pAt; exact Z64 (List.getElem?_eq_getElem h2')
 ·rw [Z7i] at h3; exact h3
theorem Zjg {m : Msg} {r : Rcv} (g : Ok r) : Ql.f m r.1 r.2 = some (Z8x m r) := by
 have g2 := g.len
 have hlo : r.2.length ≤ 1000000 := by omega
 have hle := Z8k (kP r.2) m.2.1
 rw [Zbp] at hle
 have hB : BIG = 140737488355328 := rfl
 have hp : Qi.f (r.1, r.2) m.2.1 = _ := Zb3 (r := (r.1, r.2)) hlo g.ris m.2.1
 have fin : ∀ (t : List Par) (e : Z10 r m.2.1 = (r.1, t)) (hlb : lbN (kP r.2) m.2.1 ≤ t.length) (htl : t.length ≤ 100), ¬ (m.2.1 ∈ kP r.2 ∧ (pAt r m.2.1).2.1 = m.2.2.2.1) → ∀ (s1 : Tr),
   (cb (decide (m.2.2.2.1 = (0 : Int))) (ob (Qj.f m.2.1 ([] : List UInt8) r.1 t) fun r4 => (some (r4.1, r4.2.1, r4.2.2.1, r4.2.2.2))) (let y5 : Int := ((List.length t : Nat) : Int); (cb (decide ((100 : Int) ≤ y5)) (some (((0 : Int), (bs_, ((0 : Int), ((0 : Int), ([] : List UInt8))))), (16 : Int), r.1, t)) (cb (decide ((100000 : Int) < m.2.2.2.1)) (some (((0 : Int), (bs_, ((0 : Int), ((0 : Int), ([] : List UInt8))))), (1 : Int), r.1, t)) (mix s1 (ck (0 ≤ ((lbN (kP r.2) m.2.1 : Nat) : Int) ∧ ((lbN (kP r.2) m.2.1 : Nat) : Int) ≤ (List.length t : Int) ∧ (List.length t + 1) * 48 ≤ 140737488355328) (some (((3 : Int), (m.2.1, ((0 : Int), ((0 : Int), ([] : List UInt8))))), (0 : Int), r.1, (insL t (lbN (kP r.2) m.2.1) (m.2.1, (m.2.2.2.1, ([] : List UInt8))))))))))))
   = some (Z8x m r) := by
  intro t e hlb htl hno s1
  have hw := Zd9 (d := m.2.1) (b := []) (r := (r.1, t)) (by simp) g.done
  unfold Z8x
  rw [if_neg hno, e]
  simp only [Zg, Zge]
  by_cases h1 : m.2.2.2.1 = 0
  ·rw [if_pos h1, if_pos h1]
   rw [show Qj.f m.2.1 ([] : List UInt8) r.1 t = _ from hw, ob_s]
  ·rw [if_neg h1, if_neg h1]
   by_cases h2 : 100 ≤ t.length
   ·rw [if_pos (by omega), if_pos h2]; rfl
   ·rw [if_neg (by omega), if_neg h2]
    by_cases h3 : 100000 < m.2.2.2.1
    ·rw [if_pos h3, if_pos h3]; rfl
    ·rw [if_neg h3, if_neg h3, Z2 (by omega)]; rfl
 unfold Ql.f
 rw [hp, ob_s]
 by_cases hm : m.2.1 ∈ kP r.2
 ·obtain ⟨hk, hpa, _⟩ := Z79 g.ris hm
  have hgk : r.2[lbN (kP r.2) m.2.1]? = some r.2[lbN (kP r.2) m.2.1] := List.getElem?_eq_getElem hk
  simp only [hm, decide_true, cb_t, Int.toNat_natCast, Z64 hgk]
  rw [Z2 (by omega), Z2 hk, Z2 hk, Zg]
  by_cases he : r.2[lbN (kP r.2) m.2.1].2.1 = m.2.2.2.1
  ·rw [if_pos he, Z2 (by omega), Z2 hk, Z2 hk, Z2 hk]
   unfold Z8x
   rw [if_pos ⟨hm, by rw [hpa]; exact he⟩, hpa]
   rfl
  ·rw [if_neg he, Z2f (by omega) (by omega), Z2 ⟨by omega, by omega, by first | trivial | omega⟩]
   exact fin (delL r.2 (lbN (kP r.2) m.2.1)) (by unfold Z10; rw [if_pos hm]) (by rw [Z6x hk]; omega) (by rw [Z6x hk]; omega) (fun h => he (by rw [← hpa]; exact h.2)) _
 ·simp only [hm, decide_false, cb_f, Int.toNat_natCast]
  exact fin r.2 (by unfold Z10; rw [if_neg hm]) hle g2 (fun h => hm h.1) _
end Go.Proofs.YtnehieeplbgaiabDoor
set_option linter.unusedVariables false
set_option linter.unusedSimpArgs false
namespace Go.Proofs.YtnehieeplbgaiabDoor
open Go Go.Lib Go.Proofs.YtnehieeplbgaiabDoor.Eng
theorem Z9s {α : Type} {l : List α} {k : Nat} {x d : α} (h : k < l.length) : List.getD (l.set k x) k d = x := by
 rw [List.getD, List.getElem?_set_self h]; rfl
theorem both_tr {β : Type} {a b x : Option β} (h1 : a = x) (h2 : b = x) : both a b = x := by rw [h1, h2]; exact Zc4 x
theorem Zhn {dg : Bool} {k p s n : Int} (h : chkF dg k p s n = 0) : (1 ≤ k ∧ k ≤ 6) ∧ dg = true ∧ (0 ≤ p ∧ p ≤ 2000000) ∧ (0 ≤ s ∧ s ≤ 2000000) ∧ n ≤ 65536 ∧ (p ≠ 0 → k = 2 ∨ k = 3) ∧ (s ≠ 0 → k = 1) ∧ (k = 2 ↔ 0 < n) := by
 unfold chkF at h
 split at h
 ·cases h
 ·rename_i h1
  split at h
  ·cases h
  ·rename_i h2
   split at h
   ·cases h
   ·rename_i h3
    split at h
    ·cases h
    ·rename_i h4
     split at h
     ·cases h
     ·rename_i h5
      split at h
      ·cases h
      ·rename_i h6
       refine ⟨by omega, by cases dg <;> simp_all, by omega, by omega, by omega, fun hp => ?_, fun hs => ?_, ?_⟩
       ·by_cases c : k = 2 ∨ k = 3
        ·exact c
        ·exact absurd (.inl ⟨hp, c⟩) h6
       ·by_cases c : k = 1
        ·exact c
        ·exact absurd (.inr (.inl ⟨hs, c⟩)) h6
       ·by_cases c : k = 2 ↔ 0 < n
        ·exact c
        ·exact absurd (.inr (.inr c)) h6
theorem Zic {b : List UInt8} {f n : Nat} : (b.take (f + n)).drop f = (b.drop f).take n := by
 rw [List.drop_take, Nat.add_sub_cancel_left]
theorem data_eq {m : Msg} {r : Rcv} (g : Ok r) (hm : m.2.1 ∈ kP r.2) (hf0 : 0 ≤ m.2.2.1) (hf1 : m.2.2.1 ≤ 2000000) (hn : m.2.2.2.2.length ≤ 65536) :
  Qp.f ((lbN (kP r.2) m.2.1 : Nat) : Int) m r.1 r.2 = some (Zhk m r) := by
 obtain ⟨hk, hpa, _⟩ := Z79 g.ris hm
 have hgk : r.2[lbN (kP r.2) m.2.1]? = some r.2[lbN (kP r.2) m.2.1] := List.getElem?_eq_getElem hk
 have hsz := g.sz _ (List.getElem_mem hk)
 have g2 := g.len
 unfold Zhk
 rw [hpa]
 generalize hkk : lbN (kP r.2) m.2.1 = k at *
 generalize hpp : r.2[k] = p at *
 obtain ⟨kd, d, from_, sz_, bs⟩ := m
 simp only at hm hf0 hf1 hn hkk ⊢
 obtain ⟨f, rfl⟩ := Int.eq_ofNat_of_zero_le hf0
 obtain ⟨q1, q2, q3⟩ := p
 simp only at hsz
 obtain ⟨s0, s1, s2⟩ := hsz
 simp only [Qp.f, Int.toNat_natCast, Z64 hgk]
 rw [Z2 (by omega), Z2 hk, Z2 hk, Z2 hk, Z2 hk, Zg]
 simp only [Int.ofNat_eq_natCast] at *
 by_cases c1 : (q3.length : Int) < (f : Int)
 ·rw [if_pos c1, if_pos c1]; rfl
 rw [if_neg c1, if_neg c1, Z2 hk, Z2 hk, Z2 hk, Z2 hk, Z2f (by omega) (by omega)]
 have hmin : min ((bs.length : Nat) : Int) (((q3.length : Nat) : Int) - (f : Int)) = ((min bs.length (q3.length - f) : Nat) : Int) := by omega
 simp only [hmin, Int.toNat_natCast]
 have hle : min bs.length (q3.length - f) ≤ bs.length := Nat.min_le_left _ _
 rw [Z2 (by omega), Z2 hk, Z2 hk, Z2 hk, Z2f (by omega) (by omega), Z2 (by omega)]
 have e1 : ((f : Int) + ((min bs.length (q3.length - f) : Nat) : Int)).toNat = f + min bs.length (q3.length - f) := by omega
 rw [e1, Zic]
 have heq : (bs.take (min bs.length (q3.length - f)) = (q3.drop f).take (min bs.length (q3.length - f))) ↔ (bs.take (q3.length - f) = (q3.drop f).take bs.length) := by
  have h1 : bs.take (min bs.length (q3.length - f)) = bs.take (q3.length - f) := by
   rcases Nat.le_total bs.length (q3.length - f) with h | h
   ·rw [Nat.min_eq_left h, List.take_of_length_le (Nat.le_refl _), List.take_of_length_le h]
   ·rw [Nat.min_eq_right h]
  have h2 : (q3.drop f).take (min bs.length (q3.length - f)) = (q3.drop f).take bs.length := by
   rcases Nat.le_total bs.length (q3.length - f) with h | h
   ·rw [Nat.min_eq_left h]
   ·rw [Nat.min_eq_right h, List.take_of_length_le (by simp), List.take_of_length_le (by simpa using h)]
  rw [h1, h2]
 rw [equalB2 _ _ (by rw [List.length_take]; omega), ob_s, Z20, Zg]
 by_cases c2 : bs.take (q3.length - f) = (q3.drop f).take bs.length
 ·rw [if_pos (heq.2 c2), if_neg (not_not_intro c2), Z2f (by omega) (by omega), Z2 hk, Z2 hk, Z2 hk, Zg]
  by_cases c3 : q2 < (f : Int) + (bs.length : Int)
  ·rw [if_pos c3, if_pos c3]; rfl
  rw [if_neg c3, if_neg c3, Z2 hk, Z2 hk]
  have hdl : (bs.drop (min bs.length (q3.length - f))).length ≤ 65536 := by rw [List.length_drop]; omega
  have hml : (Z4u (kd, d, (f : Int), sz_, bs) (q1, q2, q3)) = q3 ++ bs.drop (min bs.length (q3.length - f)) := by
   simp only [Z4u, Int.toNat_natCast]
  rw [hml]
  have hall : (q3 ++ bs.drop (min bs.length (q3.length - f))).length ≤ BIG := by
   have : BIG = 140737488355328 := rfl
   rw [List.length_append]; omega
  generalize hM : q3 ++ bs.drop (min bs.length (q3.length - f)) = M at *
  have hset : k < (r.2.set k (q1, q2, M)).length := by rw [List.length_set]; exact hk
  have fin : ∀ (z : Option (Msg × Int × List Obj × List Par)), z = some (if ((M.length : Nat) : Int) < q2 then (ans 3 d ((M.length : Nat) : Int), (0, (r.1, r.2.set k (q1, (q2, M))))) else Z3v d M (r.1, delL (r.2.set k (q1, (q2, M))) k)) → z = some (if ((M.length : Nat) : Int) < q2 then (ans 3 d ((M.length : Nat) : Int), (0, (r.1, r.2.set k (q1, (q2, M))))) else Z3v d M (r.1, delL (r.2.set k (q1, (q2, M))) k)) := fun _ h => h
  have tail : (ck (k < List.length (List.set r.2 k (q1, q2, M))) (cb (decide (((M.length : Nat) : Int) < q2)) (some ((ans 3 d ((M.length : Nat) : Int), (0, (r.1, r.2.set k (q1, (q2, M))))) : Out)) (some (Z3v d M (r.1, delL (r.2.set k (q1, (q2, M))) k))))) = some (if ((M.length : Nat) : Int) < q2 then (ans 3 d ((M.length : Nat) : Int), (0, (r.1, r.2.set k (q1, (q2, M))))) else Z3v d M (r.1, delL (r.2.set k (q1, (q2, M))) k)) := by
   rw [Z2 hset, Zg]
   split <;> rfl
  have hw := Zd9 (d := d) (b := M) (r := (r.1, delL (r.2.set k (q1, (q2, M))) k)) hall g.done
  have hin : InR (((k : Nat) : Int) + 1) := ⟨by omega, by omega⟩
  refine both_tr ?_ ?_
  all_goals
   simp only [Z9s hk]
   simp only [whole1_eq, hw, ob_s]
   simp only [Z2 hk, Z2 hset, Z2 hin]
   repeat rw [Z2 (by first | omega | exact ⟨hk, by omega⟩ | exact ⟨trivial, hk⟩)]
   rw [Zg]
   by_cases c4 : ((M.length : Nat) : Int) < q2
   ·rw [if_pos c4, if_pos c4]; rfl
   ·rw [if_neg c4, if_neg c4]
    first
    | rfl
    | (rw [Z2 ⟨hset, hset, by first | trivial | omega, by first | trivial | omega⟩])
 ·rw [if_neg (fun h => c2 (heq.1 h)), if_pos c2]; rfl
end Go.Proofs.YtnehieeplbgaiabDoor
set_option linter.unusedVariables false
set_option linter.unusedSimpArgs false
namespace Go.Proofs.YtnehieeplbgaiabDoor
open Go Go.Lib Go.Proofs.YtnehieeplbgaiabDoor.Eng
theorem take_eq {m : Msg} {r : Rcv} (g : Ok r) : Qr.f m r.1 r.2 = some (Z57 m r) := by
 have hlo : r.1.length ≤ 1000000 := by have := g.done.len; omega
 have hlp : r.2.length ≤ 1000000 := by have := g.len; omega
 have hd : Qe.f (r.1, r.2) m.2.1 = _ := Z42 (r := (r.1, r.2)) hlo g.done.ris m.2.1
 have hp : Qi.f (r.1, r.2) m.2.1 = _ := Zb3 (r := (r.1, r.2)) hlp g.ris m.2.1
 have hc : Qh.f m (m.2.2.2.2.length : Int) = some (msgF m) := chk_eq (Z3l m.2.1)
 unfold Qr.f Z57
 simp only [hc, ob_s, hd, hp, Zjg g]
 simp only [Z20, Zg]
 by_cases c0 : msgF m = 0
 ·rw [if_pos c0, if_pos c0]
  obtain ⟨f1, _, f3, f4, f5, _⟩ := Zhn c0
  have hdat : m.2.1 ∈ kP r.2 → Qp.f ((lbN (kP r.2) m.2.1 : Nat) : Int) m r.1 r.2 = some (Zhk m r) := fun h => data_eq g h f3.1 f3.2 (by omega)
  have hst : m.2.1 ∈ kP r.2 → (ck (0 ≤ ((lbN (kP r.2) m.2.1 : Nat) : Int) ∧ ((lbN (kP r.2) m.2.1 : Nat) : Int) < ((List.length r.2 : Nat) : Int)) (ck ((Int.toNat ((lbN (kP r.2) m.2.1 : Nat) : Int)) < List.length r.2) (ck ((Int.toNat ((lbN (kP r.2) m.2.1 : Nat) : Int)) < List.length r.2) (ck ((Int.toNat ((lbN (kP r.2) m.2.1 : Nat) : Int)) < List.length r.2) (some ((((3 : Int), (m.2.1, (((List.length (List.getD r.2 (Int.toNat ((lbN (kP r.2) m.2.1 : Nat) : Int)) (ByteArray.empty, ((0 : Int), ([] : (List UInt8))))).2.2 : Nat) : Int), ((0 : Int), ([] : List UInt8))))), (0 : Int), r.1, r.2) : Out)))))) = some (ans 3 m.2.1 ((pAt r m.2.1).2.2.length : Int), (0, r)) := fun h => by
   obtain ⟨hk, hpa, _⟩ := Z79 g.ris h
   have hgk : r.2[lbN (kP r.2) m.2.1]? = some r.2[lbN (kP r.2) m.2.1] := List.getElem?_eq_getElem hk
   rw [Int.toNat_natCast, Z2 (by omega), Z2 hk, Z2 hk, Z2 hk, Z64 hgk, hpa]
   rfl
  by_cases k1 : m.1 = 1
  ·rw [if_pos k1, if_pos (show m.1 = 1 ∨ m.1 = 2 ∨ m.1 = 6 from .inl k1)]
   by_cases h1 : m.2.1 ∈ kO r.1
   ·rw [if_pos h1, if_pos h1]; rfl
   ·rw [if_neg h1, if_neg h1, if_pos k1, if_pos k1]
  ·rw [if_neg k1]
   by_cases k2 : m.1 = 2
   ·rw [if_pos k2, if_pos (show m.1 = 1 ∨ m.1 = 2 ∨ m.1 = 6 from .inr (.inl k2))]
    by_cases h1 : m.2.1 ∈ kO r.1
    ·rw [if_pos h1, if_pos h1]; rfl
    ·rw [if_neg h1, if_neg h1, if_neg k1, if_neg k1]
     by_cases h2 : m.2.1 ∈ kP r.2
     ·rw [if_pos h2, if_pos h2, if_pos k2, if_pos k2, hdat h2, ob_s]
     ·rw [if_neg h2, if_neg h2]; rfl
   ·rw [if_neg k2]
    by_cases k6 : m.1 = 6
    ·rw [if_pos k6, if_pos (show m.1 = 1 ∨ m.1 = 2 ∨ m.1 = 6 from .inr (.inr k6))]
     by_cases h1 : m.2.1 ∈ kO r.1
     ·rw [if_pos h1, if_pos h1]; rfl
     ·rw [if_neg h1, if_neg h1, if_neg k1, if_neg k1]
      by_cases h2 : m.2.1 ∈ kP r.2
      ·rw [if_pos h2, if_pos h2, if_neg k2, if_neg k2]
       exact hst h2
      ·rw [if_neg h2, if_neg h2]; rfl
    ·rw [if_neg k6, if_neg (show ¬ (m.1 = 1 ∨ m.1 = 2 ∨ m.1 = 6) by omega)]; rfl
 ·rw [if_neg c0, if_neg c0]; rfl
theorem Take_eq {r : Rcv} {m : Msg} (hs : szO r.1) : Qu.f r m = some (Zi0 r m) := by
 unfold Qu.f Zi0
 simp only [Z2r hs, ob_s, Z20, Zg, Zge]
 by_cases c0 : chkR r = 0
 ·rw [if_pos c0, if_pos c0]
  have g := Z5q.1 c0
  rw [own_eq g, ob_s, take_eq g.ok, ob_s]
  by_cases c1 : (Z57 m r).2.1 = 0
  ·rw [if_pos c1, if_pos c1]
  ·rw [if_neg c1, if_neg c1]; rfl
 ·rw [if_neg c0, if_neg c0]; rfl
end Go.Proofs.YtnehieeplbgaiabDoor
set_option linter.unusedVariables false
set_option linter.unusedSimpArgs false
namespace Go.Proofs.YtnehieeplbgaiabDoor
open Go Go.Lib Go.Proofs.YtnehieeplbgaiabDoor.Eng
theorem Z5f {l : List ByteArray} : Rising l ↔ l.Pairwise (fun a b => cmpS a b < 0) := by
 rw [List.pairwise_iff_getElem]
 exact ⟨fun h i j hi hj hij => h i j hj hij, fun h i j hj hij => h i j (by omega) hj hij⟩
theorem Z3h {α : Type} {l : List α} {k : Nat} {x y : α} : y ∈ insL l k x ↔ y = x ∨ y ∈ l := by
 unfold insL
 have h : y ∈ l ↔ y ∈ l.take k ∨ y ∈ l.drop k := by
  rw [← List.mem_append, List.take_append_drop]
 rw [List.mem_append, List.mem_cons, h]
 constructor
 ·rintro (h | h | h)
  ·exact .inr (.inl h)
  ·exact .inl h
  ·exact .inr (.inr h)
 ·rintro (h | h | h)
  ·exact .inr (.inl h)
  ·exact .inl h
  ·exact .inr (.inr h)
theorem Zdp {α β : Type} (f : α → β) (l : List α) (k : Nat) (x : α) : (insL l k x).map f = insL (l.map f) k (f x) := by
 simp [insL, List.map_take, List.map_drop]
theorem Ziu {α β : Type} (f : α → β) (l : List α) (k : Nat) : (delL l k).map f = delL (l.map f) k := by
 simp [delL, List.map_take, List.map_drop]
theorem Zjb {α : Type} (l : List α) (k : Nat) (x : α) : delL (l.set k x) k = delL l k := by
 unfold delL
 rw [List.take_set_of_le (Nat.le_refl k), List.drop_set_of_lt (by omega)]
theorem Zdv {α : Type} {l : List α} {k : Nat} {x : α} (h : k ≤ l.length) : (insL l k x).length = l.length + 1 := by simp [insL]; omega
theorem Ze4 {α : Type} (l : List α) (k : Nat) : (delL l k).Sublist l := by
 unfold delL
 have h : (l.take k ++ l.drop (k + 1)).Sublist (l.take k ++ l.drop k) := List.Sublist.append_left (by
  rw [← List.drop_drop]
  exact List.drop_sublist _ _) _
 rwa [List.take_append_drop] at h
theorem Zeo {l : List ByteArray} (h : Rising l) (k : Nat) : Rising (delL l k) := Z5f.2 ((Z5f.1 h).sublist (Ze4 l k))
theorem lbN_gt {l : List ByteArray} (hr : Rising l) {s : ByteArray} (hs : s ∉ l) {j : Nat} (hj : j < l.length) (h : lbN l s ≤ j) : cmpS s l[j] < 0 := by
 have h0 : ¬ cmpS l[j] s < 0 := by
  rcases Nat.lt_or_ge (lbN l s) j with h1 | h1
  ·intro hc
   exact Zjn (l := l) (s := s) (by omega) (Z35 (hr (lbN l s) j hj h1) hc)
  ·have e : j = lbN l s := by omega
   subst e
   exact Zjn hj
 have h1 : cmpS l[j] s ≠ 0 := fun h => hs ((Z2m _ _).1 h ▸ List.getElem_mem hj)
 have := Z5p s l[j]
 omega
theorem Z8e {l : List ByteArray} (hr : Rising l) {s : ByteArray} (hs : s ∉ l) : Rising (insL l (lbN l s) s) := by
 have hp := Z5f.1 hr
 refine Z5f.2 ?_
 unfold insL
 rw [List.pairwise_append, List.pairwise_cons]
 have hlo : ∀ x ∈ l.take (lbN l s), cmpS x s < 0 := fun x hx => by
  obtain ⟨j, hj, rfl⟩ := List.getElem_of_mem hx
  rw [List.getElem_take]
  rw [List.length_take] at hj
  exact Zjm (by omega) (by omega)
 have hhi : ∀ x ∈ l.drop (lbN l s), cmpS s x < 0 := fun x hx => by
  obtain ⟨j, hj, rfl⟩ := List.getElem_of_mem hx
  rw [List.getElem_drop]
  rw [List.length_drop] at hj
  exact lbN_gt hr hs (by omega) (by omega)
 refine ⟨hp.sublist (List.take_sublist _ _), ⟨hhi, hp.sublist (List.drop_sublist _ _)⟩, fun a ha b hb => ?_⟩
 rcases List.mem_cons.1 hb with rfl | hb
 ·exact hlo a ha
 ·exact Z35 (hlo a ha) (hhi b hb)
theorem Zbx (s : ByteArray) : cmpS s s = 0 := (Z2m s s).2 rfl
theorem lbN_del {l : List ByteArray} (hr : Rising l) {s : ByteArray} (hs : s ∈ l) : lbN (delL l (lbN l s)) s = lbN l s ∧ s ∉ delL l (lbN l s) := by
 have h1 := (Z7f hr).1 hs
 obtain ⟨hk, h2⟩ := List.getElem?_eq_some_iff.1 h1
 have hlo : ∀ j : Nat, ∀ h : j < (delL l (lbN l s)).length, j < lbN l s → cmpS (delL l (lbN l s))[j] s < 0 := fun j h hj => by
  have e : (delL l (lbN l s))[j]? = l[j]? := by
   unfold delL
   rw [List.getElem?_append_left (by rw [List.length_take]; omega), List.getElem?_take, if_pos hj]
  have hj' : j < l.length := by omega
  rw [List.getElem?_eq_getElem h, List.getElem?_eq_getElem hj'] at e
  injection e with e
  rw [e]; exact Zjm hj' hj
 have hhi : ∀ j : Nat, ∀ h : j < (delL l (lbN l s)).length, lbN l s ≤ j → cmpS s (delL l (lbN l s))[j] < 0 := fun j h hj => by
  have hl := Z6x hk
  have e : (delL l (lbN l s))[j]? = l[j + 1]? := by
   unfold delL
   rw [List.getElem?_append_right (by rw [List.length_take]; omega), List.length_take, Nat.min_eq_left (by omega), List.getElem?_drop]
   congr 1; omega
  have hj' : j + 1 < l.length := by omega
  rw [List.getElem?_eq_getElem h, List.getElem?_eq_getElem hj'] at e
  injection e with e
  rw [e]
  have := hr (lbN l s) (j + 1) hj' (by omega)
  rwa [h2] at this
 refine ⟨lbN_of _ _ _ (by rw [Z6x hk]; omega) hlo (fun h => ?_), fun hm => ?_⟩
 ·have := hhi _ h (Nat.le_refl _)
  have h4 := Z5p s (delL l (lbN l s))[lbN l s]
  omega
 ·obtain ⟨j, hj, e⟩ := List.getElem_of_mem hm
  rcases Nat.lt_or_ge j (lbN l s) with h | h
  ·have := hlo j hj h
   rw [e, Zbx] at this; omega
  ·have := hhi j hj h
   rw [e, Zbx] at this; omega
theorem Zjo (l : List Obj) (k : Nat) (o : Obj) : kO (insL l k o) = insL (kO l) k o.1 := Zdp _ _ _ _
theorem kP_ins (l : List Par) (k : Nat) (o : Par) : kP (insL l k o) = insL (kP l) k o.1 := Zdp _ _ _ _
theorem Zgs (l : List Par) (k : Nat) : kP (delL l k) = delL (kP l) k := Ziu _ _ _
theorem kP_set {l : List Par} {k : Nat} {p : Par} (h : ∀ hk : k < l.length, l[k].1 = p.1) : kP (l.set k p) = kP l := by
 unfold kP
 apply List.ext_getElem?
 intro i
 rw [List.getElem?_map, List.getElem?_map, List.getElem?_set]
 by_cases e : k = i
 ·subst e
  rw [if_pos rfl]
  by_cases hk : k < l.length
  ·rw [if_pos hk, List.getElem?_eq_getElem hk]; simp [h hk]
  ·rw [if_neg hk, List.getElem?_eq_none (by omega)]
 ·rw [if_neg e]
theorem GoodO.ins {l : List Obj} (g : GoodO l) {b : List UInt8} (hl : l.length < 4000) (hb : b.length ≤ 2000000) (hd : dgB b ∉ kO l) : GoodO (insL l (lbN (kO l) (dgB b)) (dgB b, b)) := by
 have hle := Z8k (kO l) (dgB b)
 rw [Z8m] at hle
 refine ⟨by rw [Zdv hle]; omega, fun o ho => ?_, fun o ho => ?_, by rw [Zjo]; exact Z8e g.ris hd⟩
 ·rcases Z3h.1 ho with rfl | h
  ·rfl
  ·exact g.dig o h
 ·rcases Z3h.1 ho with rfl | h
  ·exact hb
  ·exact g.sz o h
theorem Z51 {r : Rcv} (g : Good r) (d : ByteArray) : Good (Z10 r d) ∧ d ∉ kP (Z10 r d).2 ∧ lbN (kP (Z10 r d).2) d = lbN (kP r.2) d ∧ (Z10 r d).1 = r.1 ∧ (Z10 r d).2.Sublist r.2 := by
 unfold Z10
 by_cases h : d ∈ kP r.2
 ·rw [if_pos h]
  obtain ⟨h1, h2⟩ := lbN_del g.ris h
  have hs := Ze4 r.2 (lbN (kP r.2) d)
  refine ⟨⟨g.done, Nat.le_trans hs.length_le g.len, fun p hp => g.dig p (hs.subset hp), fun p hp => g.sz p (hs.subset hp), fun p hp => g.not p (hs.subset hp), ?_⟩, ?_, ?_, rfl, hs⟩
  ·show Rising (kP (delL r.2 _)); rw [Zgs]; exact Zeo g.ris _
  ·show d ∉ kP (delL r.2 _); rw [Zgs]; exact h2
  ·show lbN (kP (delL r.2 _)) d = _; rw [Zgs]; exact h1
 ·rw [if_neg h]
  exact ⟨g, h, rfl, rfl, List.Sublist.refl _⟩
theorem Zcc {r : Rcv} (g : Good r) {d : ByteArray} {b : List UInt8} (hp : d ∉ kP r.2) (ho : d ∉ kO r.1) (hb : b.length ≤ 2000000) {a : Msg} {x : Rcv} (h : Z3v d b r = (a, (0, x))) :
  Good x ∧ ((a = ans 5 d 0 ∧ x = r) ∨ (a = ans 4 d 0 ∧ dgB b = d ∧ x = (insL r.1 (lbN (kO r.1) d) (d, b), r.2))) := by
 unfold Z3v at h
 by_cases h1 : dgB b = d
 ·rw [if_pos h1] at h
  by_cases h2 : 4000 ≤ r.1.length
  ·rw [if_pos h2] at h; cases h
  ·rw [if_neg h2] at h
   cases h
   have h0 : dgB b ∉ kO r.1 := by rw [h1]; exact ho
   have g1 := g.done.ins (b := b) (by omega) hb h0
   rw [h1] at g1
   refine ⟨⟨g1, g.len, g.dig, g.sz, fun p hpm => ?_, g.ris⟩, .inr ⟨rfl, h1, rfl⟩⟩
   show p.1 ∉ kO (insL r.1 _ (d, b))
   rw [Zjo, Z3h]
   rintro (h | h)
   ·exact hp (by have h' : p.1 = d := h; rw [← h']; exact List.mem_map_of_mem hpm)
   ·exact g.not p hpm h
 ·rw [if_neg h1] at h
  cases h
  exact ⟨g, .inl ⟨rfl, rfl⟩⟩
theorem Zit {m : Msg} {p : Par} (hf : 0 ≤ m.2.2.1) (h : ¬ (p.2.2.length : Int) < m.2.2.1) : (Z4u m p).length = max p.2.2.length (m.2.2.1.toNat + m.2.2.2.2.length) := by
 unfold Z4u
 rw [List.length_append, List.length_drop]
 omega
end Go.Proofs.YtnehieeplbgaiabDoor
set_option linter.unusedVariables false
set_option linter.unusedSimpArgs false
namespace Go.Proofs.YtnehieeplbgaiabDoor
open Go Go.Lib Go.Proofs.YtnehieeplbgaiabDoor.Eng
inductive Took (m : Msg) (r : Rcv) : Msg → Rcv → Prop
 | done (h : m.2.1 ∈ kO r.1) : Took m r (ans 4 m.2.1 0) r
 | have_ (h0 : m.2.1 ∉ kO r.1) (h : m.2.1 ∈ kP r.2) (hk : m.1 = 1 ∧ (pAt r m.2.1).2.1 = m.2.2.2.1 ∨ m.1 = 6) : Took m r (ans 3 m.2.1 ((pAt r m.2.1).2.2.length : Int)) r
 | part (h0 : m.2.1 ∉ kO r.1) (hk : m.1 = 1) (h1 : m.2.2.2.1 ≠ 0) (h2 : (Z10 r m.2.1).2.length < 100) (h3 : m.2.2.2.1 ≤ 100000) :
   Took m r (ans 3 m.2.1 0) (r.1, insL (Z10 r m.2.1).2 (lbN (kP r.2) m.2.1) (m.2.1, (m.2.2.2.1, [])))
 | more (h0 : m.2.1 ∉ kO r.1) (h : m.2.1 ∈ kP r.2) (hk : m.1 = 2) (h1 : ¬ ((pAt r m.2.1).2.2.length : Int) < m.2.2.1) (h2 : m.2.2.2.2.take ((pAt r m.2.1).2.2.length - m.2.2.1.toNat) = ((pAt r m.2.1).2.2.drop m.2.2.1.toNat).take m.2.2.2.2.length)
   (h3 : ¬ (pAt r m.2.1).2.1 < m.2.2.1 + (m.2.2.2.2.length : Int)) (h4 : ((Z4u m (pAt r m.2.1)).length : Int) < (pAt r m.2.1).2.1) :
   Took m r (ans 3 m.2.1 ((Z4u m (pAt r m.2.1)).length : Int)) (r.1, r.2.set (lbN (kP r.2) m.2.1) ((pAt r m.2.1).1, ((pAt r m.2.1).2.1, Z4u m (pAt r m.2.1))))
 | whole (h0 : m.2.1 ∉ kO r.1) (b : List UInt8) (hb : m.1 = 1 ∧ m.2.2.2.1 = 0 ∧ b = [] ∧ ¬ (m.2.1 ∈ kP r.2 ∧ (pAt r m.2.1).2.1 = m.2.2.2.1) ∨ m.1 = 2 ∧ m.2.1 ∈ kP r.2 ∧ b = Z4u m (pAt r m.2.1) ∧ (b.length : Int) = (pAt r m.2.1).2.1 ∧ ¬ ((pAt r m.2.1).2.2.length : Int) < m.2.2.1 ∧ m.2.2.2.2.take ((pAt r m.2.1).2.2.length - m.2.2.1.toNat) = ((pAt r m.2.1).2.2.drop m.2.2.1.toNat).take m.2.2.2.2.length) (hl : b.length ≤ 100000) {a : Msg} {x : Rcv} (hw : Z3v m.2.1 b (Z10 r m.2.1) = (a, (0, x))) : Took m r a x
theorem Zbh {m : Msg} (h : msgF m = 0) : (1 ≤ m.1 ∧ m.1 ≤ 6) ∧ digB m.2.1 = true ∧ (0 ≤ m.2.2.1 ∧ m.2.2.1 ≤ 2000000) ∧ (0 ≤ m.2.2.2.1 ∧ m.2.2.2.1 ≤ 2000000) ∧ (m.2.2.2.2.length : Int) ≤ 65536 ∧ (m.2.2.1 ≠ 0 → m.1 = 2 ∨ m.1 = 3) ∧ (m.2.2.2.1 ≠ 0 → m.1 = 1) ∧ (m.1 = 2 ↔ 0 < (m.2.2.2.2.length : Int)) := Zhn h
theorem took_of {m : Msg} {r : Rcv} (g : Good r) {a : Msg} {x : Rcv} (h : Z57 m r = (a, (0, x))) : msgF m = 0 ∧ (m.1 = 1 ∨ m.1 = 2 ∨ m.1 = 6) ∧ Took m r a x := by
 unfold Z57 at h
 by_cases c0 : msgF m = 0
 ·rw [if_pos c0] at h
  obtain ⟨_, _, f3, f4, f5, _⟩ := Zbh c0
  by_cases c1 : m.1 = 1 ∨ m.1 = 2 ∨ m.1 = 6
  ·rw [if_pos c1] at h
   refine ⟨c0, c1, ?_⟩
   by_cases c2 : m.2.1 ∈ kO r.1
   ·rw [if_pos c2] at h
    cases h
    exact .done c2
   ·rw [if_neg c2] at h
    by_cases k1 : m.1 = 1
    ·rw [if_pos k1] at h
     unfold Z8x at h
     by_cases c3 : m.2.1 ∈ kP r.2 ∧ (pAt r m.2.1).2.1 = m.2.2.2.1
     ·rw [if_pos c3] at h
      cases h
      exact .have_ c2 c3.1 (.inl ⟨k1, c3.2⟩)
     ·rw [if_neg c3] at h
      by_cases c4 : m.2.2.2.1 = 0
      ·rw [if_pos c4] at h
       exact .whole c2 [] (.inl ⟨k1, c4, rfl, c3⟩) (by simp) h
      ·rw [if_neg c4] at h
       by_cases c5 : 100 ≤ (Z10 r m.2.1).2.length
       ·rw [if_pos c5] at h; cases h
       ·rw [if_neg c5] at h
        by_cases c6 : 100000 < m.2.2.2.1
        ·rw [if_pos c6] at h; cases h
        ·rw [if_neg c6] at h
         cases h
         exact .part c2 k1 c4 (by omega) (by omega)
    ·rw [if_neg k1] at h
     by_cases c3 : m.2.1 ∈ kP r.2
     ·rw [if_pos c3] at h
      by_cases k2 : m.1 = 2
      ·rw [if_pos k2] at h
       unfold Zhk at h
       by_cases d1 : ((pAt r m.2.1).2.2.length : Int) < m.2.2.1
       ·rw [if_pos d1] at h; cases h
       rw [if_neg d1] at h
       by_cases d2 : m.2.2.2.2.take ((pAt r m.2.1).2.2.length - m.2.2.1.toNat) = ((pAt r m.2.1).2.2.drop m.2.2.1.toNat).take m.2.2.2.2.length
       ·rw [if_neg (not_not_intro d2)] at h
        by_cases d3 : (pAt r m.2.1).2.1 < m.2.2.1 + (m.2.2.2.2.length : Int)
        ·rw [if_pos d3] at h; cases h
        rw [if_neg d3] at h
        by_cases d4 : ((Z4u m (pAt r m.2.1)).length : Int) < (pAt r m.2.1).2.1
        ·rw [if_pos d4] at h
         cases h
         exact .more c2 c3 k2 d1 d2 d3 d4
        ·rw [if_neg d4, Zjb] at h
         obtain ⟨hk, hpa, _⟩ := Z79 g.ris c3
         have hsz := g.sz _ (List.getElem_mem hk)
         rw [← hpa] at hsz
         have hml := Zit f3.1 d1
         have e : Z10 r m.2.1 = (r.1, delL r.2 (lbN (kP r.2) m.2.1)) := by unfold Z10; rw [if_pos c3]
         rw [← e] at h
         exact .whole c2 _ (.inr ⟨k2, c3, rfl, by omega, d1, d2⟩) (by omega) h
       ·rw [if_pos d2] at h; cases h
      ·rw [if_neg k2] at h
       cases h
       exact .have_ c2 c3 (.inr (by omega))
     ·rw [if_neg c3] at h; cases h
  ·rw [if_neg c1] at h; cases h
 ·rw [if_neg c0] at h
  injection h with h1 h2
  injection h2 with h2 h3
  exact absurd h2 c0
theorem Zfh {m : Msg} {r : Rcv} (g : Good r) (hm : msgF m = 0) {a : Msg} {x : Rcv} (h : Took m r a x) : Good x ∧ a.2.1 = m.2.1 ∧ ∀ o ∈ r.1, o ∈ x.1 := by
 obtain ⟨_, fd, f3, f4, f5, _⟩ := Zbh hm
 cases h with
 | done h => exact ⟨g, rfl, fun _ h => h⟩
 | have_ h0 h hk => exact ⟨g, rfl, fun _ h => h⟩
 | part h0 hk h1 h2 h3 =>
  obtain ⟨w1, w2, w3, w4, w5⟩ := Z51 g m.2.1
  have hle := Z8k (kP (Z10 r m.2.1).2) m.2.1
  rw [Zbp, w3] at hle
  refine ⟨⟨g.done, by show (insL _ _ _).length ≤ 100; rw [Zdv hle]; omega, fun p hp => ?_, fun p hp => ?_, fun p hp => ?_, ?_⟩, rfl, fun _ h => h⟩
  ·rcases Z3h.1 hp with rfl | hp
   ·exact fd
   ·exact w1.dig p hp
  ·rcases Z3h.1 hp with rfl | hp
   ·exact ⟨f4.1, h3, by show ((0 : Nat) : Int) < m.2.2.2.1; omega⟩
   ·exact w1.sz p hp
  ·rcases Z3h.1 hp with rfl | hp
   ·exact h0
   ·exact fun h => w1.not p hp (by rw [w4]; exact h)
  ·show Rising (kP (insL _ _ _))
   rw [kP_ins, ← w3]
   exact Z8e w1.ris w2
 | more h0 h hk h1 h2 h3 h4 =>
  obtain ⟨hkk, hpa, hpd⟩ := Z79 g.ris h
  have hks : kP (r.2.set (lbN (kP r.2) m.2.1) ((pAt r m.2.1).1, ((pAt r m.2.1).2.1, Z4u m (pAt r m.2.1)))) = kP r.2 := kP_set (fun _ => by rw [hpa])
  have hsz := g.sz _ (List.getElem_mem hkk)
  rw [← hpa] at hsz
  refine ⟨⟨g.done, by simpa using g.len, fun p hp => ?_, fun p hp => ?_, fun p hp => ?_, by show Rising (kP _); rw [hks]; exact g.ris⟩, rfl, fun _ h => h⟩
  ·rcases List.mem_or_eq_of_mem_set hp with hp | rfl
   ·exact g.dig p hp
   ·show digB (pAt r m.2.1).1 = true
    rw [hpa]; exact g.dig _ (List.getElem_mem hkk)
  ·rcases List.mem_or_eq_of_mem_set hp with hp | rfl
   ·exact g.sz p hp
   ·exact ⟨hsz.1, hsz.2.1, h4⟩
  ·rcases List.mem_or_eq_of_mem_set hp with hp | rfl
   ·exact g.not p hp
   ·show (pAt r m.2.1).1 ∉ _
    rw [hpa]; exact g.not _ (List.getElem_mem hkk)
 | whole h0 b hb hl hw =>
  obtain ⟨w1, w2, w3, w4, w5⟩ := Z51 g m.2.1
  obtain ⟨g1, h2⟩ := Zcc w1 w2 (by rw [w4]; exact h0) (by omega) hw
  refine ⟨g1, ?_, fun o ho => ?_⟩
  ·rcases h2 with ⟨rfl, _⟩ | ⟨rfl, _⟩ <;> rfl
  ·rcases h2 with ⟨_, rfl⟩ | ⟨_, _, rfl⟩
   ·rw [w4]; exact ho
   ·rw [w4]; exact Z3h.2 (.inr ho)
end Go.Proofs.YtnehieeplbgaiabDoor
set_option linter.unusedVariables false
set_option linter.unusedSimpArgs false
namespace Go.Proofs.YtnehieeplbgaiabDoor
open Go Go.Lib Go.Proofs.YtnehieeplbgaiabDoor.Eng
theorem Zhh (R k : Nat) : digC (hexD R k) = true := by
 have h : ((List.range 16).all fun n => digC (bt hexCs ((n : Nat) : Int))) = true := by decide +kernel
 exact List.all_eq_true.1 h _ (List.mem_range.2 (Nat.mod_lt _ (by decide)))
theorem Ze3 (R : Nat) : ∀ k, (digs R k).all digC = true
 | 0 => rfl
 | k + 1 => by simp only [digs, List.all_cons, Zhh, Ze3 R k]; rfl
theorem Zj9 (l : List UInt8) : digB (dgB l) = true := by
 unfold digB
 rw [Zja, decide_eq_true rfl, Bool.true_and]
 simpa [dgB] using Ze3 (Zez 14695981039346656037 l).toNat 16
theorem kO_at {l : List Obj} (hr : Rising (kO l)) {o : Obj} (ho : o ∈ l) : ∃ h : lbN (kO l) o.1 < l.length, l[lbN (kO l) o.1] = o := by
 have hm : o.1 ∈ kO l := List.mem_map_of_mem ho
 have h := (Z7f hr).1 hm
 obtain ⟨h1, h2⟩ := List.getElem?_eq_some_iff.1 h
 have h3 : lbN (kO l) o.1 < l.length := by rw [Z8m] at h1; exact h1
 obtain ⟨i, hi, e⟩ := List.getElem_of_mem ho
 have hi' : i < (kO l).length := by rw [Z8m]; exact hi
 have e2 : (kO l)[i] = o.1 := by rw [Z7j, e]
 have := hr.inj h1 hi' (h2.trans e2.symm)
 refine ⟨h3, ?_⟩
 have e3 : l[lbN (kO l) o.1] = l[i] := by congr 1
 rw [e3, e]
end Go.Proofs.YtnehieeplbgaiabDoor
set_option linter.unusedVariables false
set_option linter.unusedSimpArgs false
namespace Go.Proofs.YtnehieeplbgaiabDoor
open Go Go.Lib Go.Proofs.YtnehieeplbgaiabDoor.Eng
theorem Zji {r : Rcv} (g : Good r) : szO r.1 := fun o ho => Nat.le_trans (g.done.sz o ho) (by decide)
theorem Zcw {r : Rcv} (g : Good r) {o : Obj} (ho : o ∈ r.1) : Qq.f r o.1 = some (((o.2.length : Nat) : Int), (true, 0)) := by
 obtain ⟨h1, h2⟩ := kO_at g.done.ris ho
 unfold Qq.f
 rw [Z2r (Zji g), Z5q.2 g, ob_s, Z3l, g.done.dig o ho, Zj9, ← g.done.dig o ho, ob_s, Z42 (Nat.le_trans g.done.len (by decide)) g.done.ris, ob_s]
 have hm : o.1 ∈ kO r.1 := List.mem_map_of_mem ho
 simp only [Z20, Zg, decide_eq_true hm, cb_t]
 rw [Z2 (by constructor <;> omega), Z3e h1, h2, if_pos trivial]
theorem law_TR {r : Rcv} {m : Msg} (hs : szO r.1) : Q4.f r m = some true := by
 unfold Q4.f
 rw [Take_eq hs, ob_s, awake_eq]
 simp only [Z20, Zg, ob_s]
 by_cases c0 : (Zi0 r m).2.2 = 0
 ·rw [if_pos c0]
  unfold Zi0 at c0 ⊢
  by_cases h0 : chkR r = 0
  ·rw [if_pos h0] at c0 ⊢
   by_cases h1 : (Z57 m r).2.1 = 0
   ·rw [if_pos h1] at c0 ⊢
    have g := Z5q.1 h0
    obtain ⟨a, x, ht⟩ : ∃ a x, Z57 m r = (a, (0, x)) := ⟨(Z57 m r).1, (Z57 m r).2.2, by rw [← h1]⟩
    rw [ht]
    obtain ⟨t1, t2, t3⟩ := took_of g ht
    obtain ⟨g1, t4, t5⟩ := Zfh g t1 t3
    have hl : ∀ n k : Nat, r.1.length - k = n → Q4.l0 x r.1 (r.1.length : Int) (k : Int) = some (.inr ()) := by
     intro n
     have hlen := g.done.len
     induction n with
     | zero =>
      intro k hn
      refine Zu ?_
      simp only [Q4.s0, Zg]
      rw [if_neg (by omega)]
     | succ n ih =>
      intro k hn
      have hk : k < r.1.length := by omega
      refine (Zq ?_).trans (ih (k + 1) (by omega))
      simp only [Q4.s0, Zg]
      rw [if_pos (by omega), Z2f (by omega) (by omega), Z3e hk]
      simp only [Zcw g1 (t5 _ (List.getElem_mem hk)), ob_s, Z20, Zg, cb_t]
      rw [if_pos trivial, if_pos trivial, Z2 (by constructor <;> omega)]
      rfl
    have h2 := hl _ 0 rfl
    rw [show ((0 : Nat) : Int) = 0 from rfl] at h2
    simp only [h2, ob_s, Z7y, Z2r (Zji g1), Z5q.2 g1, t4, Zg]
    rw [if_pos trivial, if_pos trivial]
   ·rw [if_neg h1] at c0; exact absurd c0 h1
  ·rw [if_neg h0] at c0; exact absurd c0 h0
 ·rw [if_neg c0]
  unfold Zi0 at c0 ⊢
  by_cases h0 : chkR r = 0
  ·rw [if_pos h0] at c0 ⊢
   by_cases h1 : (Z57 m r).2.1 = 0
   ·rw [if_pos h1] at c0; exact absurd rfl c0
   ·rw [if_neg h1]; rfl
  ·rw [if_neg h0]; rfl
end Go.Proofs.YtnehieeplbgaiabDoor
set_option linter.unusedVariables false
set_option linter.unusedSimpArgs false
set_option maxRecDepth 100000
namespace Go.Proofs.YtnehieeplbgaiabDoor
open Go Go.RowKit Go.Lib Go.Proofs.YtnehieeplbgaiabDoor.Eng
theorem rcv_in (r : Rcv) (hx : InD T 6 25 (.pair (.slice (.pair .str (.slice .byte))) (.slice (.pair .str (.pair (.int .i64) (.slice .byte))))) r) : szO r.1 := by
 have hr : reachBytes ≤ BIG := by decide +kernel
 have h1 : InD T 5 22 (.slice (.pair .str (.slice .byte))) r.1 := hx.1
 intro o ho
 have h2 : InD T 4 34 (.pair .str (.slice .byte)) o := h1.2 o ho
 have h3 : List.length o.2 * 1 ≤ reachBytes := h2.2.1
 exact Nat.le_trans (by omega) hr
theorem law_TR' (x : Rcv × Msg) (hx : InA T 6 [25, 28] [.pair (.slice (.pair .str (.slice .byte))) (.slice (.pair .str (.pair (.int .i64) (.slice .byte)))), .pair (.int .i64) (.pair .str (.pair (.int .i64) (.pair (.int .i64) (.slice .byte))))] x) : Q4.f x.1 x.2 = some true :=
 law_TR (rcv_in x.1 hx.1)
end Go.Proofs.YtnehieeplbgaiabDoor
