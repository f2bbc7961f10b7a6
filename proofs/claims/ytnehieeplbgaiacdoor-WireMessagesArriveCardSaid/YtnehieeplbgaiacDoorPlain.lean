/-
  The plain laws of frames and of feeding them, over the printed functions. No condition.
-/
import Derived.Test.YtnehieeplbgaiacDoorFun
import Derived.Sort.Walk0
import Derived.Test.YtnehieeplbgaiacDoorTypC
set_option linter.unusedVariables false
set_option linter.unusedSimpArgs false
namespace Go.Proofs.YtnehieeplbgaiacDoor
open Go Go.Lib Go.Proofs.YtnehieeplbgaiacDoor.Eng
abbrev Obj := ByteArray × List UInt8
abbrev Par := ByteArray × (Int × List UInt8)
abbrev Rcv := List Obj × List Par
abbrev Msg := Int × (ByteArray × (Int × (Int × List UInt8)))
def BIG : Nat := 140737488355328
theorem Z7v {β : Type} {c : Prop} [h : Decidable c] {a : Option β} : ck c a = if c then a else none := by
 by_cases hc : c
 ·rw [Z1 hc, if_pos hc]
 ·rw [if_neg hc]; unfold ck; rw [if_neg hc]
instance inR_dec (x : Int) : Decidable (InR x) := by unfold InR; infer_instance
theorem Z1w (a b c : Int) : Qg.f a b c = some (decide (b ≤ a ∧ a ≤ c)) := by
 unfold Qg.f
 rw [Zb]
 by_cases h : b ≤ a <;> simp [h]
theorem starts_awake : Q9.f ((2 : Int), (10 : Int)) [((0 : Int), (8 : Int)), ((0 : Int), (8 : Int))] = some ([0, 3], 0) := by
 have q : Qo.f ((2 : Int), (10 : Int)) = some 0 := by
  simp only [Qo.f, Z1w, ob_s]; rfl
 have l0 : Q9.l0 [((0 : Int), (8 : Int)), ((0 : Int), (8 : Int))] ((2 : Int), (10 : Int)) [((0 : Int), (8 : Int)), ((0 : Int), (8 : Int))] 2 0 = some (.inr ()) := by
  refine (Zi (x' := 1) ?_).trans ((Zi (x' := 2) ?_).trans (Zm ?_))
  ·simp only [Q9.s0, Z7v, Z1w, ob_s]; rfl
  ·simp only [Q9.s0, Z7v, Z1w, ob_s]; rfl
  ·simp only [Q9.s0, Z7v, Z1w, ob_s]; rfl
 have l1 : Q9.l1 ((2 : Int), (10 : Int)) [((0 : Int), (8 : Int)), ((0 : Int), (8 : Int))] 2 0 10 0 [] = some (3, [0, 3]) := by
  refine (Zi (x' := (0, 2, 1, [0])) ?_).trans ((Zi (x' := (3, 0, 2, [0, 3])) ?_).trans (Zm ?_))
  ·simp only [Q9.s1, Z7v]; rfl
  ·simp only [Q9.s1, Z7v]; rfl
  ·simp only [Q9.s1, Z7v]; rfl
 unfold Q9.f
 rw [q, ob_s]
 show ob (Q9.l0 [((0 : Int), (8 : Int)), ((0 : Int), (8 : Int))] ((2 : Int), (10 : Int)) [((0 : Int), (8 : Int)), ((0 : Int), (8 : Int))] 2 0) _ = _
 rw [l0, ob_s, Z80]
 show ob (Q9.l1 ((2 : Int), (10 : Int)) [((0 : Int), (8 : Int)), ((0 : Int), (8 : Int))] 2 0 10 0 []) _ = _
 rw [l1, ob_s]
 rfl
theorem awake_eq : Qp.f = some true := by
 unfold Qp.f
 rw [starts_awake, ob_s]
 simp only [Z7v]
 rfl
theorem Z6s {α : Type} (l : List α) (c : Prop) (h : c) : nq (¬ l = ([] : List α)) (ck c (some (([] : List α) ++ l))) (some ([] : List α)) = some l := by
 by_cases he : l = []
 ·subst he
  rw [Z1 h]
  exact nq_same
 ·unfold nq
  rw [if_pos he, Z1 h]
  rfl
theorem Zkd {l : List UInt8} (h : l.length ≤ BIG) : Qf.f l = some l := Z6s l _ (by have : BIG = 140737488355328 := rfl; simp; omega)
theorem cloneO {l : List Obj} (h : l.length ≤ 1000000) : Qa.f l = some l := Z6s l _ (by simp; omega)
theorem cloneP {l : List Par} (h : l.length ≤ 1000000) : Q7.f l = some l := Z6s l _ (by simp; omega)
theorem equalB2 (a b : List UInt8) (ha : a.length ≤ 1000000000000000) : Q3.f a b = some (decide (a = b)) := by
 have go : ∀ (n k : Nat), a.length = b.length → a.length - k = n → k ≤ a.length → Q3.l0 a b (a.length : Int) (k : Int) = some (if a.drop k = b.drop k then .inr () else .inl false) := by
  intro n
  induction n with
  | zero =>
   intro k hab hn hk
   obtain rfl : k = a.length := by omega
   refine Zm ?_
   simp only [Q3.s0, Zb]
   rw [if_neg (by omega), List.drop_length, hab, List.drop_length, if_pos rfl]
  | succ n ih =>
   intro k hab hn hk
   have hlt : k < a.length := by omega
   have hlt2 : k < b.length := by omega
   have ihk := ih (k + 1) hab (by omega) (by omega)
   rw [List.drop_eq_getElem_cons hlt, List.drop_eq_getElem_cons hlt2]
   by_cases he : a[k] = b[k]
   ·refine (Zi (x' := ((k + 1 : Nat) : Int)) ?_).trans (ihk.trans ?_)
    ·simp only [Q3.s0, Zb, Z1b, Z2v hlt, Z2v hlt2]
     rw [if_pos (by omega), Z1 (by omega), Z1 (by omega), if_pos (by rw [he]), Z1p (by omega) (by omega)]
     rfl
    ·congr 1; simp only [List.cons.injEq, he, true_and]
   ·refine Zm ?_
    simp only [Q3.s0, Zb, Z1b, Z2v hlt, Z2v hlt2]
    have hne : ¬ (((UInt8.toNat a[k] : Nat) : Int) = ((UInt8.toNat b[k] : Nat) : Int)) := fun h => he (UInt8.toNat_inj.1 (by omega))
    rw [if_pos (by omega), Z1 (by omega), Z1 (by omega), if_neg hne, if_neg (fun h => he (List.cons.inj h).1)]
 unfold Q3.f
 simp only [Z1b, Zb]
 by_cases hl : a.length = b.length
 ·rw [if_pos (by omega), show (0 : Int) = ((0 : Nat) : Int) from rfl, go a.length 0 hl (by omega) (by omega), ob_s]
  simp only [List.drop_zero]
  by_cases h : a = b
  ·rw [if_pos h, Z80]; simp [h]
  ·rw [if_neg h, Zdh]; simp [h]
 ·rw [if_neg (by omega)]
  have : a ≠ b := fun h => hl (by rw [h])
  simp [this]
theorem cb_if {β : Type} {b : Bool} {x y : Option β} : cb b x y = if b = true then x else y := by cases b <;> rfl
def chkF (dg : Bool) (k p s n : Int) : Int :=
 if ¬ (1 ≤ k ∧ k ≤ 6) then 4 else if dg = false then 3 else if ¬ (0 ≤ p ∧ p ≤ 2000000) then 1 else if ¬ (0 ≤ s ∧ s ≤ 2000000) then 1 else if 65536 < n then 2
 else if (p ≠ 0 ∧ ¬ (k = 2 ∨ k = 3)) ∨ (s ≠ 0 ∧ k ≠ 1) ∨ ¬ (k = 2 ↔ 0 < n) then 3 else 0
theorem chk_eq {m : Msg} {n : Int} {dg : Bool} (hd : Qj.f m.2.1 = some dg) : Qk.f m n = some (chkF dg m.1 m.2.2.1 m.2.2.2.1 n) := by
 obtain ⟨k, d, p, s, b⟩ := m
 simp only at hd ⊢
 unfold Qk.f chkF
 simp only [Z1w, hd, ob_s, Z1b, cb_if, decide_eq_true_eq, beq_iff_eq, decide_eq_decide]
 cases dg
 ·by_cases h1 : 1 ≤ k ∧ k ≤ 6 <;> simp [h1]
 ·by_cases h1 : 1 ≤ k ∧ k ≤ 6
  ·by_cases h3 : 0 ≤ p ∧ p ≤ 2000000
   ·by_cases h4 : 0 ≤ s ∧ s ≤ 2000000
    ·by_cases h5 : 65536 < n
     ·simp [h1, h3, h4, h5]
     ·simp only [h1, h3, h4, h5, not_true_eq_false, and_self, if_true, if_false]
      by_cases h6 : k = 2
      ·subst h6
       by_cases h7 : s = 0 <;> by_cases h8 : 0 < n <;> simp [h7, h8]
      ·by_cases h7 : k = 3
       ·subst h7
        by_cases h8 : s = 0 <;> by_cases h9 : 0 < n <;> simp [h8, h9]
       ·by_cases h8 : k = 1
        ·subst h8
         by_cases h9 : p = 0 <;> by_cases h10 : 0 < n <;> simp [h9, h10]
        ·by_cases h9 : p = 0 <;> by_cases h10 : 0 < n <;> by_cases h11 : s = 0 <;> simp [h6, h7, h8, h9, h10, h11]
    ·simp [h1, h3, h4]
   ·simp [h1, h3]
  ·simp [h1]
theorem Zg5 (s : ByteArray) : s.size = s.data.toList.length := by rw [ByteArray.size]; simp
def cmpS (a b : ByteArray) : Int := Lib.compareBytes a.data.toList b.data.toList
theorem cmpL_less : ∀ a b : List UInt8, (Lib.compareBytes a b < 0 ↔ Op.bytesLess a b = true)
 | [], [] => by simp [Lib.compareBytes, Op.bytesLess]
 | [], _ :: _ => by simp [Lib.compareBytes, Op.bytesLess]
 | _ :: _, [] => by simp [Lib.compareBytes, Op.bytesLess]
 | x :: a, y :: b => by
  have ih := cmpL_less a b
  unfold Lib.compareBytes Op.bytesLess
  by_cases h1 : x < y
  ·simp [h1]
  ·by_cases h2 : y < x
   ·have h3 : ¬ x = y := fun e => by subst e; exact absurd h2 (UInt8.lt_irrefl x)
    simp [h1, h2, h3]
   ·have h3 : x = y := UInt8.le_antisymm (UInt8.not_lt.1 h2) (UInt8.not_lt.1 h1)
    subst h3
    simp only [h1, if_false, decide_false, Bool.false_or, beq_self_eq_true, Bool.true_and]
    exact ih
theorem cmpL_eq0 : ∀ a b : List UInt8, (Lib.compareBytes a b = 0 ↔ a = b)
 | [], [] => by simp [Lib.compareBytes]
 | [], _ :: _ => by simp [Lib.compareBytes]
 | _ :: _, [] => by simp [Lib.compareBytes]
 | x :: a, y :: b => by
  have ih := cmpL_eq0 a b
  unfold Lib.compareBytes
  by_cases h1 : x < y
  ·have h3 : ¬ x = y := fun e => by subst e; exact absurd h1 (UInt8.lt_irrefl x)
   simp [h1, h3]
  ·by_cases h2 : y < x
   ·have h3 : ¬ x = y := fun e => by subst e; exact absurd h2 (UInt8.lt_irrefl x)
    simp [h1, h2, h3]
   ·have h3 : x = y := UInt8.le_antisymm (UInt8.not_lt.1 h2) (UInt8.not_lt.1 h1)
    subst h3
    simp only [h1, if_false, List.cons.injEq, true_and]
    exact ih
theorem cmpL_swap : ∀ a b : List UInt8, Lib.compareBytes b a = - Lib.compareBytes a b
 | [], [] => rfl
 | [], _ :: _ => rfl
 | _ :: _, [] => rfl
 | x :: a, y :: b => by
  have ih := cmpL_swap a b
  unfold Lib.compareBytes
  by_cases h1 : x < y
  ·have h2 : ¬ y < x := UInt8.not_lt.2 (UInt8.le_of_lt h1)
   simp [h1, h2]
  ·by_cases h2 : y < x
   ·simp [h1, h2]
   ·simp only [h1, h2, if_false]; exact ih
theorem cmpL_trans : ∀ a b c : List UInt8, Lib.compareBytes a b < 0 → Lib.compareBytes b c < 0 → Lib.compareBytes a c < 0
 | [], [], c, h, _ => by simp [Lib.compareBytes] at h
 | [], _ :: _, [], _, h => by simp [Lib.compareBytes] at h
 | [], _ :: _, _ :: _, _, _ => by simp [Lib.compareBytes]
 | _ :: _, [], c, h, _ => by simp [Lib.compareBytes] at h
 | _ :: _, _ :: _, [], _, h => by simp [Lib.compareBytes] at h
 | x :: a, y :: b, z :: c, h, h' => by
  have ih := cmpL_trans a b c
  unfold Lib.compareBytes at h h' ⊢
  by_cases h1 : x < y
  ·by_cases h2 : y < z
   ·simp [UInt8.lt_trans h1 h2]
   ·by_cases h3 : z < y
    ·simp [h2, h3] at h'
    ·have e : y = z := UInt8.le_antisymm (UInt8.not_lt.1 h3) (UInt8.not_lt.1 h2)
     subst e; simp [h1]
  ·by_cases h2 : y < x
   ·simp [h1, h2] at h
   ·have e : x = y := UInt8.le_antisymm (UInt8.not_lt.1 h2) (UInt8.not_lt.1 h1)
    subst e
    by_cases h3 : x < z
    ·simp [h3]
    ·by_cases h4 : z < x
     ·simp [h3, h4] at h'
     ·simp only [h1, if_false] at h
      simp only [h3, h4, if_false] at h' ⊢
      exact ih h h'
theorem Zi9 (a b : ByteArray) : Z83 a b = true ↔ cmpS a b < 0 := by
 unfold Z83 cmpS
 rw [ByteArray.toList_eq, ByteArray.toList_eq]
 exact (cmpL_less _ _).symm
theorem Z2q (a b : ByteArray) : cmpS a b = 0 ↔ a = b := by
 unfold cmpS
 rw [cmpL_eq0]
 exact ⟨fun h => ByteArray.ext (Array.toList_inj.1 h), fun h => by rw [h]⟩
theorem Z5r (a b : ByteArray) : cmpS b a = - cmpS a b := cmpL_swap _ _
theorem Z39 {a b c : ByteArray} (h : cmpS a b < 0) (h' : cmpS b c < 0) : cmpS a c < 0 := cmpL_trans _ _ _ h h'
theorem Z9s (a b : ByteArray) : (Z83 a b || decide (a = b)) = decide (cmpS a b ≤ 0) := by
 have h1 := Zi9 a b
 have h2 := Z2q a b
 by_cases h : cmpS a b < 0
 ·rw [h1.2 h, Bool.true_or, decide_eq_true (by omega)]
 ·have hf : Z83 a b = false := by
   cases hb : Z83 a b with
   | false => rfl
   | true => exact absurd (h1.1 hb) h
  rw [hf, Bool.false_or]
  exact decide_eq_decide.2 ⟨fun e => by rw [h2.2 e]; exact Int.le_refl _, fun e => h2.1 (by omega)⟩
def Rising (l : List ByteArray) : Prop := ∀ i j : Nat, ∀ h : j < l.length, ∀ h' : i < j, cmpS (l[i]'(by omega)) l[j] < 0
theorem Zcz {l : List ByteArray} (h : ∀ k : Nat, ∀ hk : k + 1 < l.length, cmpS (l[k]'(by omega)) l[k + 1] < 0) : Rising l := by
 intro i j
 induction j with
 | zero => intro h h'; omega
 | succ j ih =>
  intro hj hij
  rcases Nat.lt_or_ge i j with h1 | h1
  ·exact Z39 (ih (by omega) h1) (h j hj)
  ·have : i = j := by omega
   subst this
   exact h i hj
theorem Rising.inj {l : List ByteArray} (h : Rising l) {i j : Nat} (hi : i < l.length) (hj : j < l.length) (e : l[i] = l[j]) : i = j := by
 rcases Nat.lt_trichotomy i j with h1 | h1 | h1
 ·have := h i j hj h1
  rw [e] at this
  have h0 := (Z2q l[j] l[j]).2 rfl
  omega
 ·exact h1
 ·have := h j i hi h1
  rw [e] at this
  have h0 := (Z2q l[j] l[j]).2 rfl
  omega
theorem Z5n {p : UInt8 → Bool} : ∀ {l : List UInt8}, l.dropWhile p = [] ↔ l.all p = true
 | [] => by simp
 | x :: l => by
  rw [List.dropWhile_cons, List.all_cons]
  cases h : p x with
  | true => simp only [if_true, Bool.true_and]; exact Z5n
  | false => simp
theorem Z5o {p : UInt8 → Bool} : ∀ {l : List UInt8}, (l.dropWhile p).all p = l.all p
 | [] => rfl
 | x :: l => by
  rw [List.dropWhile_cons]
  cases h : p x with
  | true => simp only [if_true, List.all_cons, h, Bool.true_and]; exact Z5o
  | false => simp only [Bool.false_eq_true, if_false]
theorem Zio (l cs : List UInt8) : trimS l cs = [] ↔ l.all (fun c => cs.contains c) = true := by
 have e1 : trimLeftS (trimRightS l cs) cs = ((l.reverse.dropWhile (cs.contains ·)).reverse).dropWhile (cs.contains ·) := rfl
 unfold trimS
 rw [e1, Z5n, List.all_reverse, Z5o, List.all_reverse]
abbrev hexCs : ByteArray := Q4
def digC (c : UInt8) : Bool := decide (48 ≤ c.toNat ∧ c.toNat ≤ 57) || decide (97 ≤ c.toNat ∧ c.toNat ≤ 102)
theorem digC_eq (c : UInt8) : hexCs.data.toList.contains c = digC c := by
 have h : ((List.range 256).all fun n => hexCs.data.toList.contains (UInt8.ofNat n) == digC (UInt8.ofNat n)) = true := by decide +kernel
 have := List.all_eq_true.1 h c.toNat (List.mem_range.2 c.toNat_lt)
 simpa using this
def digB (s : ByteArray) : Bool := decide (s.size = 16) && s.data.toList.all digC
theorem Z3o (s : ByteArray) : Qj.f s = some (digB s) := by
 unfold Qj.f digB
 simp only [Zb]
 by_cases h : s.size = 16
 ·rw [if_pos (by omega)]
  unfold Q10.f
  rw [Z1 ⟨by omega, by decide, by decide +kernel⟩, ob_s]
  congr 1
  rw [decide_eq_true h, Bool.true_and]
  have e : (⟨(trimS s.data.toList hexCs.data.toList).toArray⟩ = bs_) ↔ s.data.toList.all digC = true := by
   rw [show (s.data.toList.all digC = true) ↔ (s.data.toList.all (fun c => hexCs.data.toList.contains c) = true) by simp only [digC_eq], ← Zio]
   constructor
   ·intro h
    have := congrArg (fun b : ByteArray => b.data.toList) h
    simpa [bs_] using this
   ·intro h
    rw [h]; rfl
  cases hh : s.data.toList.all digC with
  | true => exact decide_eq_true (e.2 hh)
  | false => exact decide_eq_false (fun h => by rw [e.1 h] at hh; cases hh)
 ·rw [if_neg (by omega), decide_eq_false h]; rfl
theorem wrapU (n : Int) : IntKind.u64.wrap n = n % 18446744073709551616 := by
 simp only [IntKind.wrap, IntKind.bits, IntKind.signed, Bool.false_and, Bool.false_eq_true, if_false]
 have e : (2 : Int) ^ 64 = 18446744073709551616 := by decide
 rw [e]
theorem Zil {n : Int} (h0 : 0 ≤ n) (h1 : n < 18446744073709551616) : IntKind.u64.wrap n = n := by rw [wrapU]; omega
def hstep (h : Int) (c : UInt8) : Int := IntKind.u64.wrap (IntKind.u64.wrap ((BitVec.toNat (BitVec.ofInt (IntKind.bits .u64) h ^^^ BitVec.ofInt (IntKind.bits .u64) (IntKind.u64.wrap ((UInt8.toNat c : Nat) : Int))) : Nat) : Int) * (1099511628211 : Int))
def Zfe (h : Int) : List UInt8 → Int
 | [] => h
 | c :: r => Zfe (hstep h c) r
theorem hashL_in : ∀ (l : List UInt8) (h : Int), 0 ≤ h ∧ h < 18446744073709551616 → 0 ≤ Zfe h l ∧ Zfe h l < 18446744073709551616
 | [], h, hh => hh
 | c :: r, h, _ => hashL_in r _ (by unfold hstep; rw [wrapU]; omega)
theorem Zby {l : List UInt8} (hl : l.length ≤ BIG) : ∀ (n k : Nat) (h : Int), l.length - k = n → Q6.l0 l (l.length : Int) h (k : Int) = some (Zfe h (l.drop k)) := by
 have hB : BIG = 140737488355328 := rfl
 intro n
 induction n with
 | zero =>
  intro k h hk
  refine Zm ?_
  simp only [Q6.s0, Zb]
  rw [if_neg (by omega), List.drop_eq_nil_of_le (by omega)]
  rfl
 | succ n ih =>
  intro k h hk
  have hlt : k < l.length := by omega
  have e : ((k : Int) + 1) = ((k + 1 : Nat) : Int) := by omega
  rw [List.drop_eq_getElem_cons hlt]
  refine (Zi ?_).trans (ih (k + 1) (hstep h l[k]) (by omega))
  simp only [Q6.s0, Zb]
  rw [if_pos (by omega), Z1 ⟨by omega, by omega⟩, Z1p (by omega) (by omega), Z2v hlt, e]
  rfl
def hexD (R k : Nat) : UInt8 := bt hexCs (((R / 16 ^ k % 16 : Nat)) : Int)
def digs (R : Nat) : Nat → List UInt8
 | 0 => []
 | k + 1 => hexD R k :: digs R k
theorem Zg8 {α : Type} (a b : α) (t : List α) : ∀ m : Nat, (List.replicate (m + 1) a ++ t).set m b = List.replicate m a ++ b :: t
 | 0 => rfl
 | m + 1 => by
  rw [List.replicate_succ, List.cons_append, List.set_cons_succ, Zg8 a b t m, List.replicate_succ, List.cons_append]
theorem and15 (x : Nat) (h : x < 18446744073709551616) : IntKind.u64.wrap ((BitVec.toNat (BitVec.ofInt (IntKind.bits .u64) ((x : Nat) : Int) &&& BitVec.ofInt (IntKind.bits .u64) (15 : Int)) : Nat) : Int) = ((x % 16 : Nat) : Int) := by
 have e1 : BitVec.toNat (BitVec.ofInt (IntKind.bits .u64) ((x : Nat) : Int)) = x := by
  rw [BitVec.toNat_ofInt]
  simp only [IntKind.bits]
  omega
 have e2 : BitVec.toNat (BitVec.ofInt (IntKind.bits .u64) (15 : Int)) = 2 ^ 4 - 1 := by decide
 rw [BitVec.toNat_and, e1, e2, Nat.and_two_pow_sub_one_eq_mod, wrapU]
 omega
theorem Zjm {R : Nat} (hR : R < 18446744073709551616) : ∀ (n i : Nat), 16 - i = n → i ≤ 16 → Q6.l1 16 (((R / 16 ^ i : Nat)) : Int) (i : Int) (List.replicate (16 - i) 0 ++ digs R i) = some (digs R 16) := by
 intro n
 induction n with
 | zero =>
  intro i hn hi
  obtain rfl : i = 16 := by omega
  refine Zm ?_
  simp only [Q6.s1, Zb]
  rw [if_neg (by decide)]
  simp
 | succ n ih =>
  intro i hn hi
  have hlen : (List.replicate (16 - i) (0 : UInt8) ++ digs R i).length = 16 := by
   have : ∀ k, (digs R k).length = k := fun k => by induction k with | zero => rfl | succ k ih => simp [digs, ih]
   rw [List.length_append, this, List.length_replicate]; omega
  have hx : R / 16 ^ i < 18446744073709551616 := Nat.lt_of_le_of_lt (Nat.div_le_self _ _) hR
  refine (Zi ?_).trans (ih (i + 1) (by omega) (by omega))
  have hsz : ((ByteArray.size Q4 : Nat) : Int) = 16 := by decide
  have e1 : (Int.toNat ((15 : Int) - (i : Int))) = 15 - i := by omega
  simp only [Q6.s1, Zb, and15 _ hx, hsz, hlen, e1]
  rw [if_pos (by omega), Z1p (by omega) (by omega), Z1 ⟨by omega, by omega⟩, Z1 ⟨by omega, by omega⟩, Z1 (by omega), Z1p (by omega) (by omega)]
  congr 3
  ·rw [Int.fdiv_eq_ediv_of_nonneg _ (by decide)]
   have e2 : (2 : Int) ^ min (Int.toNat (4 : Int)) (IntKind.bits .u64) = ((16 : Nat) : Int) := by decide
   rw [e2, ← Int.natCast_ediv, Nat.div_div_eq_div_mul, Nat.pow_succ]
  ·congr 1
   have e3 : 16 - i = (15 - i) + 1 := by omega
   rw [e3, Zg8, show 16 - (i + 1) = 15 - i by omega]
   rfl
def dgB (l : List UInt8) : ByteArray := ⟨(digs (Zfe 14695981039346656037 l).toNat 16).toArray⟩
theorem Zee (R : Nat) : ∀ k, (digs R k).length = k
 | 0 => rfl
 | k + 1 => by simp [digs, Zee R k]
theorem Zjv (l : List UInt8) : (dgB l).size = 16 := by
 rw [Zg5]
 simp [dgB, Zee]
theorem Z7s {l : List UInt8} (hl : l.length ≤ BIG) : Q6.f l = some (dgB l) := by
 have h := Zby hl _ 0 14695981039346656037 rfl
 obtain ⟨h1, h2⟩ := hashL_in l 14695981039346656037 (by decide)
 rw [List.drop_zero, show ((0 : Nat) : Int) = 0 from rfl] at h
 obtain ⟨R, hR⟩ := Int.eq_ofNat_of_zero_le h1
 unfold Q6.f
 simp only [h, ob_s]
 rw [Z1 (by decide)]
 have h3 := Zjm (R := R) (by omega) _ 0 rfl (by decide)
 have e1 : ((List.length (List.replicate (Int.toNat (16 : Int)) (0 : UInt8)) : Nat) : Int) = 16 := by decide
 have e2 : List.replicate (Int.toNat (16 : Int)) (0 : UInt8) = List.replicate (16 - 0) 0 ++ digs R 0 := rfl
 have e3 : (R / 16 ^ 0 : Nat) = R := by simp
 rw [e3] at h3
 rw [e1, e2, hR]
 rw [show (0 : Int) = ((0 : Nat) : Int) from rfl, h3, ob_s]
 unfold dgB
 rw [hR]
 rfl
end Go.Proofs.YtnehieeplbgaiacDoor
set_option linter.unusedVariables false
set_option linter.unusedSimpArgs false
namespace Go.Proofs.YtnehieeplbgaiacDoor
open Go Go.Lib Go.Proofs.YtnehieeplbgaiacDoor.Eng
instance memDec (s : ByteArray) (l : List ByteArray) : Decidable (s ∈ l) := decidable_of_iff (∃ x, x ∈ l ∧ x = s) ⟨fun ⟨x, h, e⟩ => e ▸ h, fun h => ⟨s, h, rfl⟩⟩
def kO (l : List Obj) : List ByteArray := l.map (·.1)
def kP (l : List Par) : List ByteArray := l.map (·.1)
def lbN (l : List ByteArray) (s : ByteArray) : Nat := (l.takeWhile fun x => decide (cmpS x s < 0)).length
theorem lbN_of : ∀ (l : List ByteArray) (s : ByteArray) (c : Nat), c ≤ l.length → (∀ k : Nat, ∀ h : k < l.length, k < c → cmpS l[k] s < 0) → (∀ h : c < l.length, ¬ cmpS l[c] s < 0) → lbN l s = c
 | [], s, c, hc, _, _ => by
  have : c = 0 := by simpa using hc
  subst this; rfl
 | x :: l, s, 0, hc, _, h2 => by
  have := h2 (by simp)
  simp only [List.getElem_cons_zero] at this
  simp [lbN, List.takeWhile_cons, this]
 | x :: l, s, c + 1, hc, h1, h2 => by
  have h0 := h1 0 (by simp) (by omega)
  simp only [List.getElem_cons_zero] at h0
  have ih := lbN_of l s c (by simpa using hc) (fun k h hk => by
   have := h1 (k + 1) (by simpa using h) (by omega)
   simpa using this) (fun h => by
   have := h2 (by simpa using h)
   simpa using this)
  simp only [lbN, List.takeWhile_cons, h0, decide_true, if_true, List.length_cons]
  simp only [lbN] at ih
  rw [ih]
theorem Z6j (l : List ByteArray) (s : ByteArray) : lbN l s ≤ l.length := (List.takeWhile_prefix _).length_le
theorem Zh2 {l : List ByteArray} {s : ByteArray} {k : Nat} (h : k < l.length) (hk : k < lbN l s) : cmpS l[k] s < 0 := by
 induction l generalizing k with
 | nil => simp at h
 | cons x l ih =>
  simp only [lbN, List.takeWhile_cons] at hk
  split at hk
  ·rename_i hx
   cases k with
   | zero => simpa using of_decide_eq_true hx
   | succ k =>
    simp only [List.length_cons] at hk
    simpa using ih (by simpa using h) (by simp only [lbN]; omega)
  ·simp at hk
theorem Zk7 {l : List ByteArray} {s : ByteArray} (h : lbN l s < l.length) : ¬ cmpS l[lbN l s] s < 0 := by
 induction l with
 | nil => simp [lbN] at h
 | cons x l ih =>
  by_cases hx : cmpS x s < 0
  ·have e : lbN (x :: l) s = lbN l s + 1 := by simp [lbN, List.takeWhile_cons, hx]
   have h' : lbN l s < l.length := by rw [e] at h; simpa using h
   have := ih h'
   simp only [e, List.getElem_cons_succ]
   exact this
  ·have e : lbN (x :: l) s = 0 := by simp [lbN, List.takeWhile_cons, hx]
   simp only [e, List.getElem_cons_zero]
   exact hx
theorem Z8m {l : List ByteArray} (hr : Rising l) {s : ByteArray} : s ∈ l ↔ l[lbN l s]? = some s := by
 constructor
 ·intro hm
  obtain ⟨k, hk, rfl⟩ := List.getElem_of_mem hm
  have e : lbN l l[k] = k := lbN_of l _ k (by omega) (fun j hj hjk => hr j k hk hjk) (fun h => by
   have := (Z2q l[k] l[k]).2 rfl
   omega)
  rw [e, List.getElem?_eq_getElem hk]
 ·exact fun h => List.mem_of_getElem? h
theorem half {a b : Nat} (ha : a ≤ 1000000) (hb : b ≤ 1000000) : IntKind.i64.wrap (Int.fdiv (IntKind.u64.wrap ((a : Int) + (b : Int))) (2 ^ min (Int.toNat (1 : Int)) (IntKind.bits .u64))) = ((a + b) / 2 : Nat) := by
 have e1 : IntKind.u64.wrap ((a : Int) + (b : Int)) = ((a + b : Nat) : Int) := by
  simp only [IntKind.wrap, IntKind.bits, IntKind.signed, Bool.false_and, Bool.false_eq_true, if_false]
  have e : (2 : Int) ^ 64 = 18446744073709551616 := by decide
  rw [e]; omega
 have e2 : (2 : Int) ^ min (Int.toNat (1 : Int)) (IntKind.bits .u64) = 2 := by decide
 rw [e1, e2]
 have e3 : Int.fdiv ((a + b : Nat) : Int) 2 = ((a + b) / 2 : Nat) := by
  rw [Int.fdiv_eq_ediv_of_nonneg _ (by decide)]; omega
 rw [e3]
 exact IntWalk.i64_in _ ⟨by omega, by omega⟩
theorem bs_go {l : List ByteArray} (hr : Rising l) (s : ByteArray) (f : Int × Int → Option ((Int × Int) ⊕ Int))
  (hstep : ∀ a b : Nat, a < b → b ≤ l.length → ∀ h : (a + b) / 2 < l.length, f ((a : Int), (b : Int)) = some (.inl (if cmpS l[(a + b) / 2] s < 0 then ((((a + b) / 2 + 1 : Nat) : Int), (b : Int)) else ((a : Int), (((a + b) / 2 : Nat) : Int))))) (hend : ∀ a : Nat, f ((a : Int), (a : Int)) = some (.inr (a : Int))) :
  Z1c f (0, (l.length : Int)) = some ((lbN l s : Nat) : Int) := by
 have go : ∀ (n a b : Nat), b - a = n → a ≤ b → b ≤ l.length → (∀ k : Nat, ∀ h : k < l.length, k < a → cmpS l[k] s < 0) → (∀ k : Nat, ∀ h : k < l.length, b ≤ k → ¬ cmpS l[k] s < 0) → Z1c f ((a : Int), (b : Int)) = some ((lbN l s : Nat) : Int) := by
  intro n
  induction n using Nat.strongRecOn with
  | _ n ih =>
   intro a b hn hab hb h1 h2
   rcases Nat.lt_or_ge a b with hlt | hge
   ·have hm : (a + b) / 2 < l.length := by omega
    have hs := hstep a b hlt hb hm
    by_cases hc : cmpS l[(a + b) / 2] s < 0
    ·rw [if_pos hc] at hs
     refine (Zi hs).trans (ih (b - ((a + b) / 2 + 1)) (by omega) ((a + b) / 2 + 1) b rfl (by omega) hb (fun k hk hka => ?_) h2)
     rcases Nat.lt_or_ge k ((a + b) / 2) with h | h
     ·exact Z39 (hr k _ hm h) hc
     ·have : k = (a + b) / 2 := by omega
      subst this; exact hc
    ·rw [if_neg hc] at hs
     refine (Zi hs).trans (ih ((a + b) / 2 - a) (by omega) a ((a + b) / 2) rfl (by omega) (by omega) h1 (fun k hk hka h => ?_))
     rcases Nat.lt_or_ge ((a + b) / 2) k with h5 | h5
     ·exact hc (Z39 (hr _ k hk h5) h)
     ·have : k = (a + b) / 2 := by omega
      subst this; exact hc h
   ·have e : a = b := by omega
    subst e
    rw [Zm (hend a), lbN_of l s a hb h1 (fun h => h2 a h (Nat.le_refl _))]
 exact go _ 0 l.length rfl (Nat.zero_le _) (Nat.le_refl _) (fun k _ h => absurd h (Nat.not_lt_zero _)) (fun k hk h => by omega)
theorem Zed (o : Obj) (s : ByteArray) : Qu.f o s = some (cmpS o.1 s) := rfl
theorem Zdw (o : Par) (s : ByteArray) : Qt.f o s = some (cmpS o.1 s) := rfl
theorem Z8q {l : List Obj} {k : Nat} (h : k < (kO l).length) : (kO l)[k] = (l[k]'(by simpa [kO] using h)).1 := by simp [kO]
theorem Z7j {l : List Par} {k : Nat} (h : k < (kP l).length) : (kP l)[k] = (l[k]'(by simpa [kP] using h)).1 := by simp [kP]
theorem Z5p {r : Rcv} (hl : r.1.length ≤ 1000000) (hr : Rising (kO r.1)) (s : ByteArray) : Qi.f r s = some (((lbN (kO r.1) s : Nat) : Int), decide (s ∈ kO r.1)) := by
 have hlen : (kO r.1).length = r.1.length := by simp [kO]
 have h := bs_go hr s (fun x => Q1.s0 r.1 s x.1 x.2) (fun a b hab hb hm => by
  have hm' : (a + b) / 2 < r.1.length := by omega
  simp only [Q1.s0, Zb, half (a := a) (b := b) (by omega) (by omega), Z2v hm', Zed, ob_s]
  rw [if_pos (by omega), Z1p (by omega) (by omega), Z1 (by omega), Z8q]
  by_cases hc : cmpS r.1[(a + b) / 2].1 s < 0
  ·rw [if_pos hc, if_pos hc, Z1p (by omega) (by omega)]; rfl
  ·rw [if_neg hc, if_neg hc]) (fun a => by
  simp only [Q1.s0, Zb]
  rw [if_neg (by omega)])
 rw [hlen] at h
 have hle := Z6j (kO r.1) s
 unfold Qi.f Q1.f
 simp only
 rw [show Q1.l0 r.1 s (0 : Int) (r.1.length : Int) = some ((lbN (kO r.1) s : Nat) : Int) from h, ob_s, Zb]
 by_cases hc : lbN (kO r.1) s < r.1.length
 ·rw [if_pos (by omega), Z1 (by omega), Z2v hc, Zed, ob_s, ob_s]
  have hc' : lbN (kO r.1) s < (kO r.1).length := by omega
  have e : (decide (cmpS r.1[lbN (kO r.1) s].1 s = 0)) = decide (s ∈ kO r.1) := decide_eq_decide.2 (by
   rw [Z8m hr, Z2q, List.getElem?_eq_getElem hc', Z8q, Option.some.injEq])
  rw [e]
 ·rw [if_neg (by omega), ob_s]
  have e : decide (s ∈ kO r.1) = false := decide_eq_false (by
   rw [Z8m hr, List.getElem?_eq_none (by omega)]; simp)
  rw [e]
theorem Zb9 {r : Rcv} (hl : r.2.length ≤ 1000000) (hr : Rising (kP r.2)) (s : ByteArray) : Qn.f r s = some (((lbN (kP r.2) s : Nat) : Int), decide (s ∈ kP r.2)) := by
 have hlen : (kP r.2).length = r.2.length := by simp [kP]
 have h := bs_go hr s (fun x => Q0.s0 r.2 s x.1 x.2) (fun a b hab hb hm => by
  have hm' : (a + b) / 2 < r.2.length := by omega
  simp only [Q0.s0, Zb, half (a := a) (b := b) (by omega) (by omega), Z2v hm', Zdw, ob_s]
  rw [if_pos (by omega), Z1p (by omega) (by omega), Z1 (by omega), Z7j]
  by_cases hc : cmpS r.2[(a + b) / 2].1 s < 0
  ·rw [if_pos hc, if_pos hc, Z1p (by omega) (by omega)]; rfl
  ·rw [if_neg hc, if_neg hc]) (fun a => by
  simp only [Q0.s0, Zb]
  rw [if_neg (by omega)])
 rw [hlen] at h
 have hle := Z6j (kP r.2) s
 unfold Qn.f Q0.f
 simp only
 rw [show Q0.l0 r.2 s (0 : Int) (r.2.length : Int) = some ((lbN (kP r.2) s : Nat) : Int) from h, ob_s, Zb]
 by_cases hc : lbN (kP r.2) s < r.2.length
 ·rw [if_pos (by omega), Z1 (by omega), Z2v hc, Zdw, ob_s, ob_s]
  have hc' : lbN (kP r.2) s < (kP r.2).length := by omega
  have e : (decide (cmpS r.2[lbN (kP r.2) s].1 s = 0)) = decide (s ∈ kP r.2) := decide_eq_decide.2 (by
   rw [Z8m hr, Z2q, List.getElem?_eq_getElem hc', Z7j, Option.some.injEq])
  rw [e]
 ·rw [if_neg (by omega), ob_s]
  have e : decide (s ∈ kP r.2) = false := decide_eq_false (by
   rw [Z8m hr, List.getElem?_eq_none (by omega)]; simp)
  rw [e]
def fstF (F : Nat → Int) : Nat → Int
 | 0 => 0
 | n + 1 => if fstF F n = 0 then F n else fstF F n
theorem Z44 {F : Nat → Int} : ∀ {n : Nat}, fstF F n = 0 ↔ ∀ k, k < n → F k = 0
 | 0 => ⟨fun _ k h => by omega, fun _ => rfl⟩
 | n + 1 => by
  have ih := @Z44 F n
  unfold fstF
  constructor
  ·intro h k hk
   by_cases h0 : fstF F n = 0
   ·rw [if_pos h0] at h
    rcases Nat.lt_or_ge k n with h1 | h1
    ·exact ih.1 h0 k h1
    ·have : k = n := by omega
     subst this; exact h
   ·rw [if_neg h0] at h; exact absurd h h0
  ·intro h
   rw [if_pos (ih.2 fun k hk => h k (by omega))]
   exact h n (by omega)
theorem Zhm {F : Nat → Int} {k : Nat} (h0 : fstF F k = 0) (hk : F k ≠ 0) : ∀ {n : Nat}, k < n → fstF F n = F k
 | 0, h => by omega
 | n + 1, h => by
  unfold fstF
  rcases Nat.lt_or_ge k n with h1 | h1
  ·rw [Zhm h0 hk h1, if_neg hk]
  ·have : k = n := by omega
   subst this; rw [if_pos h0]
def fltR (e : Int) : Int ⊕ Unit := if e = 0 then .inr () else .inl e
theorem Zhl {n : Nat} (F : Nat → Int) (f : Int → Option (Int ⊕ (Int ⊕ Unit))) (hend : f (n : Int) = some (.inr (.inr ()))) (hno : ∀ k : Nat, k < n → fstF F k = 0 → F k ≠ 0 → f (k : Int) = some (.inr (.inl (F k)))) (hyes : ∀ k : Nat, k < n → fstF F k = 0 → F k = 0 → f (k : Int) = some (.inl ((k : Int) + 1))) :
  Z1c f 0 = some (fltR (fstF F n)) := by
 have go : ∀ (m k : Nat), n - k = m → k ≤ n → fstF F k = 0 → Z1c f (k : Int) = some (fltR (fstF F n)) := by
  intro m
  induction m with
  | zero =>
   intro k hm hk h0
   obtain rfl : k = n := by omega
   rw [Zm hend, h0]; rfl
  | succ m ih =>
   intro k hm hk h0
   by_cases hF : F k = 0
   ·refine (Zi (hyes k (by omega) h0 hF)).trans ?_
    have := ih (k + 1) (by omega) (by omega) (by unfold fstF; rw [if_pos h0]; exact hF)
    simpa using this
   ·rw [Zm (hno k (by omega) h0 hF), Zhm h0 hF (by omega)]
    unfold fltR
    rw [if_neg hF]
 exact go n 0 (by omega) (by omega) rfl
def Z1x (l : List ByteArray) (i : Nat) (s : ByteArray) : Bool := match i with
 | 0 => false
 | i + 1 => match l[i]? with | some x => decide (cmpS s x ≤ 0) | none => false
def objF (l : List Obj) (i : Nat) : Int := match l[i]? with
 | some o => if o.1 = dgB o.2 then (if 2000000 < o.2.length then 2 else if Z1x (kO l) i o.1 = true then 8 else 0) else 15
 | none => 0
def chkO (l : List Obj) : Int := if 4000 < l.length then 2 else fstF (objF l) l.length
def parF (r : Rcv) (i : Nat) : Int := match r.2[i]? with
 | some p => if digB p.1 = true then (if 0 ≤ p.2.1 ∧ p.2.1 ≤ 100000 then (if p.2.1 ≤ (p.2.2.length : Int) then 2 else if p.1 ∈ kO r.1 then 7 else if Z1x (kP r.2) i p.1 = true then 8 else 0) else 1) else 3
 | none => 0
def chkR (r : Rcv) : Int := if chkO r.1 = 0 then (if 100 < r.2.length then 2 else fstF (parF r) r.2.length) else chkO r.1
def szO (l : List Obj) : Prop := ∀ o ∈ l, o.2.length ≤ BIG
theorem Zad {l : List Obj} (hs : szO l) : Q8.f l = some (chkO l) := by
 unfold Q8.f chkO
 simp only [Zb]
 by_cases h0 : 4000 < l.length
 ·rw [if_pos (by omega), if_pos h0]
 ·rw [if_neg (by omega), if_neg h0]
  have h := Zhl (n := l.length) (objF l) (fun x => Q8.s0 l l (l.length : Int) x) (by
   simp only [Q8.s0, Zb]; rw [if_neg (by omega)]) (fun k hk _ hF => by
   have hd := Z7s (hs _ (List.getElem_mem hk))
   unfold objF at hF ⊢
   rw [List.getElem?_eq_getElem hk] at hF ⊢
   simp only at hF ⊢
   simp only [Q8.s0, Zb, Z2v hk, hd, ob_s, Z1b, Z9s]
   rw [if_pos (by omega), Z1 (by omega)]
   by_cases h1 : l[k].1 = dgB l[k].2
   ·rw [if_pos h1] at hF
    rw [if_pos h1, if_pos h1]
    by_cases h2 : 2000000 < l[k].2.length
    ·rw [if_pos (by omega), if_pos h2]
    ·rw [if_neg h2] at hF
     rw [if_neg (by omega), if_neg h2]
     cases k with
     | zero => exact absurd (by simp [Z1x]) hF
     | succ k =>
      have hk1 : k < l.length := by omega
      have e1 : (((k + 1 : Nat) : Int) - 1) = (k : Int) := by omega
      rw [if_pos (by omega), e1, Z1p (by omega) (by omega), Z1 (by omega), Z2v hk1]
      have e2 : Z1x (kO l) (k + 1) l[k + 1].1 = decide (cmpS l[k + 1].1 l[k].1 ≤ 0) := by
       have : k < (kO l).length := by simpa [kO] using hk1
       simp only [Z1x, List.getElem?_eq_getElem this, Z8q]
      rw [e2] at hF ⊢
      by_cases h3 : cmpS l[k + 1].1 l[k].1 ≤ 0
      ·rw [if_pos h3, if_pos (by simpa using h3)]
      ·rw [if_neg (by simpa using h3)] at hF; exact absurd rfl hF
   ·rw [if_neg h1, if_neg h1]) (fun k hk _ hF => by
   have hd := Z7s (hs _ (List.getElem_mem hk))
   unfold objF at hF
   rw [List.getElem?_eq_getElem hk] at hF
   simp only at hF
   simp only [Q8.s0, Zb, Z2v hk, hd, ob_s, Z1b, Z9s]
   rw [if_pos (by omega), Z1 (by omega)]
   by_cases h1 : l[k].1 = dgB l[k].2
   ·rw [if_pos h1] at hF
    rw [if_pos h1]
    by_cases h2 : 2000000 < l[k].2.length
    ·rw [if_pos h2] at hF; cases hF
    ·rw [if_neg h2] at hF
     rw [if_neg (by omega)]
     cases k with
     | zero => rw [if_neg (by omega), Z1p (by omega) (by omega)]
     | succ k =>
      have hk1 : k < l.length := by omega
      have e1 : (((k + 1 : Nat) : Int) - 1) = (k : Int) := by omega
      rw [if_pos (by omega), e1, Z1p (by omega) (by omega), Z1 (by omega), Z2v hk1]
      have e2 : Z1x (kO l) (k + 1) l[k + 1].1 = decide (cmpS l[k + 1].1 l[k].1 ≤ 0) := by
       have : k < (kO l).length := by simpa [kO] using hk1
       simp only [Z1x, List.getElem?_eq_getElem this, Z8q]
      rw [e2] at hF
      by_cases h3 : cmpS l[k + 1].1 l[k].1 ≤ 0
      ·rw [if_pos (by simpa using h3)] at hF; cases hF
      ·rw [if_neg h3, Z1p (by omega) (by omega)]
   ·rw [if_neg h1] at hF; cases hF)
  have h' : Q8.l0 l l (l.length : Int) 0 = some (fltR (fstF (objF l) l.length)) := h
  rw [h', ob_s]
  unfold fltR
  by_cases e : fstF (objF l) l.length = 0
  ·rw [if_pos e, Z80, e]
  ·rw [if_neg e, Zdh]
end Go.Proofs.YtnehieeplbgaiacDoor
set_option linter.unusedVariables false
set_option linter.unusedSimpArgs false
namespace Go.Proofs.YtnehieeplbgaiacDoor
open Go Go.Lib Go.Proofs.YtnehieeplbgaiacDoor.Eng
theorem Ze6 (l : List Obj) : (kO l).length = l.length := by simp [kO]
theorem Z8p (l : List Par) : (kP l).length = l.length := by simp [kP]
theorem Z3g {l : List ByteArray} : Rising l ↔ ∀ k : Nat, ∀ h : k < l.length, Z1x l k l[k] = false := by
 constructor
 ·intro hr k hk
  cases k with
  | zero => rfl
  | succ k =>
   have h := hr k (k + 1) hk (by omega)
   have h1 : k < l.length := by omega
   simp only [Z1x, List.getElem?_eq_getElem h1]
   have hs := Z5r l[k] l[k + 1]
   exact decide_eq_false (by omega)
 ·intro h
  refine Zcz fun k hk => ?_
  have := h (k + 1) hk
  have h1 : k < l.length := by omega
  simp only [Z1x, List.getElem?_eq_getElem h1] at this
  have hs := Z5r l[k] l[k + 1]
  have := of_decide_eq_false this
  omega
structure GoodO (l : List Obj) : Prop where
 len : l.length ≤ 4000
 dig : ∀ o ∈ l, o.1 = dgB o.2
 sz : ∀ o ∈ l, o.2.length ≤ 2000000
 ris : Rising (kO l)
structure Good (r : Rcv) : Prop where
 done : GoodO r.1
 len : r.2.length ≤ 100
 dig : ∀ p ∈ r.2, digB p.1 = true
 sz : ∀ p ∈ r.2, 0 ≤ p.2.1 ∧ p.2.1 ≤ 100000 ∧ (p.2.2.length : Int) < p.2.1
 not : ∀ p ∈ r.2, p.1 ∉ kO r.1
 ris : Rising (kP r.2)
theorem Z7x {l : List Obj} : chkO l = 0 ↔ GoodO l := by
 unfold chkO
 constructor
 ·intro h
  split at h
  ·cases h
  ·rename_i hl
   rw [Z44] at h
   have key : ∀ k : Nat, ∀ hk : k < l.length, l[k].1 = dgB l[k].2 ∧ l[k].2.length ≤ 2000000 ∧ Z1x (kO l) k l[k].1 = false := fun k hk => by
    have := h k hk
    unfold objF at this
    rw [List.getElem?_eq_getElem hk] at this
    simp only at this
    split at this
    ·rename_i h1
     split at this
     ·cases this
     ·rename_i h2
      split at this
      ·cases this
      ·rename_i h3
       exact ⟨h1, by omega, by simpa using h3⟩
    ·cases this
   refine ⟨by omega, fun o ho => ?_, fun o ho => ?_, Z3g.2 fun k hk => ?_⟩
   ·obtain ⟨k, hk, rfl⟩ := List.getElem_of_mem ho; exact (key k hk).1
   ·obtain ⟨k, hk, rfl⟩ := List.getElem_of_mem ho; exact (key k hk).2.1
   ·have hk' : k < l.length := by rwa [Ze6] at hk
    rw [Z8q]; exact (key k hk').2.2
 ·intro g
  rw [if_neg (by have := g.len; omega), Z44]
  intro k hk
  unfold objF
  rw [List.getElem?_eq_getElem hk]
  have hm := List.getElem_mem hk
  have h1 := Z3g.1 g.ris k (by rw [Ze6]; exact hk)
  rw [Z8q] at h1
  simp only
  rw [if_pos (g.dig _ hm), if_neg (by have := g.sz _ hm; omega), if_neg (by rw [h1]; simp)]
theorem Z7w {r : Rcv} : chkR r = 0 ↔ Good r := by
 unfold chkR
 constructor
 ·intro h
  split at h
  ·rename_i h0
   split at h
   ·cases h
   ·rename_i hl
    rw [Z44] at h
    have key : ∀ k : Nat, ∀ hk : k < r.2.length, digB r.2[k].1 = true ∧ (0 ≤ r.2[k].2.1 ∧ r.2[k].2.1 ≤ 100000 ∧ (r.2[k].2.2.length : Int) < r.2[k].2.1) ∧ r.2[k].1 ∉ kO r.1 ∧ Z1x (kP r.2) k r.2[k].1 = false := fun k hk => by
     have := h k hk
     unfold parF at this
     rw [List.getElem?_eq_getElem hk] at this
     simp only at this
     split at this
     ·rename_i h1
      split at this
      ·rename_i h2
       split at this
       ·cases this
       ·rename_i h3
        split at this
        ·cases this
        ·rename_i h4
         split at this
         ·cases this
         ·rename_i h5
          exact ⟨h1, ⟨h2.1, h2.2, by omega⟩, h4, by simpa using h5⟩
      ·cases this
     ·cases this
    refine ⟨Z7x.1 h0, by omega, fun o ho => ?_, fun o ho => ?_, fun o ho => ?_, Z3g.2 fun k hk => ?_⟩
    ·obtain ⟨k, hk, rfl⟩ := List.getElem_of_mem ho; exact (key k hk).1
    ·obtain ⟨k, hk, rfl⟩ := List.getElem_of_mem ho; exact (key k hk).2.1
    ·obtain ⟨k, hk, rfl⟩ := List.getElem_of_mem ho; exact (key k hk).2.2.1
    ·have hk' : k < r.2.length := by rwa [Z8p] at hk
     rw [Z7j]; exact (key k hk').2.2.2
  ·rename_i h0; exact absurd h h0
 ·intro g
  rw [if_pos (Z7x.2 g.done), if_neg (by have := g.len; omega), Z44]
  intro k hk
  unfold parF
  rw [List.getElem?_eq_getElem hk]
  have hm := List.getElem_mem hk
  have h1 := Z3g.1 g.ris k (by rw [Z8p]; exact hk)
  rw [Z7j] at h1
  obtain ⟨s1, s2, s3⟩ := g.sz _ hm
  simp only
  rw [if_pos (g.dig _ hm), if_pos ⟨s1, s2⟩, if_neg (by omega), if_neg (g.not _ hm), if_neg (by rw [h1]; simp)]
theorem Z8c {r : Rcv} (hs : szO r.1) : Q5.f r = some (chkR r) := by
 unfold Q5.f chkR
 simp only [Zad hs, ob_s, Z1b, Zb]
 by_cases h0 : chkO r.1 = 0
 ·rw [if_pos h0, if_pos h0]
  by_cases h1 : 100 < r.2.length
  ·rw [if_pos (by omega), if_pos h1]
  ·rw [if_neg (by omega), if_neg h1]
   have g := Z7x.1 h0
   have hlo : r.1.length ≤ 1000000 := by have := g.len; omega
   have e1 : ∀ k : Nat, (((k + 1 : Nat) : Int) - 1) = (k : Int) := fun k => by omega
   have h := Zhl (n := r.2.length) (parF r) (fun x => Q5.s0 r r.2 (r.2.length : Int) x) (by
    simp only [Q5.s0, Zb]; rw [if_neg (by omega)]) (fun k hk _ hF => by
    unfold parF at hF ⊢
    rw [List.getElem?_eq_getElem hk] at hF ⊢
    simp only at hF ⊢
    simp only [Q5.s0, Z2v hk, Z3o, Z1w, Z5p hlo g.ris, ob_s, Z1b, Z9s]
    simp only [cb_if, decide_eq_true_eq]
    rw [if_pos (by omega), Z1 (by omega)]
    by_cases c1 : digB r.2[k].1 = true
    ·rw [if_pos c1] at hF; rw [if_pos c1, if_pos c1]
     by_cases c2 : 0 ≤ r.2[k].2.1 ∧ r.2[k].2.1 ≤ 100000
     ·rw [if_pos c2] at hF; rw [if_pos c2, if_pos c2]
      by_cases c3 : r.2[k].2.1 ≤ (r.2[k].2.2.length : Int)
      ·rw [if_pos c3, if_pos c3]
      ·rw [if_neg c3] at hF; rw [if_neg c3, if_neg c3]
       by_cases c4 : r.2[k].1 ∈ kO r.1
       ·rw [if_pos c4, if_pos c4]
       ·rw [if_neg c4] at hF; rw [if_neg c4, if_neg c4]
        cases k with
        | zero => exact absurd (by simp [Z1x]) hF
        | succ k =>
         have hk1 : k < r.2.length := by omega
         have e2 : Z1x (kP r.2) (k + 1) r.2[k + 1].1 = decide (cmpS r.2[k + 1].1 r.2[k].1 ≤ 0) := by
          have : k < (kP r.2).length := by simpa [kP] using hk1
          simp only [Z1x, List.getElem?_eq_getElem this, Z7j]
         rw [e2] at hF ⊢
         rw [if_pos (by omega), e1, Z1p (by omega) (by omega), Z1 (by omega), Z2v hk1]
         by_cases c5 : cmpS r.2[k + 1].1 r.2[k].1 ≤ 0
         ·rw [if_pos c5, if_pos (by simpa using c5)]
         ·rw [if_neg (by simpa using c5)] at hF; exact absurd rfl hF
     ·rw [if_neg c2, if_neg c2]
    ·rw [if_neg c1, if_neg c1]) (fun k hk _ hF => by
    unfold parF at hF
    rw [List.getElem?_eq_getElem hk] at hF
    simp only at hF
    simp only [Q5.s0, Z2v hk, Z3o, Z1w, Z5p hlo g.ris, ob_s, Z1b, Z9s]
    simp only [cb_if, decide_eq_true_eq]
    rw [if_pos (by omega), Z1 (by omega)]
    by_cases c1 : digB r.2[k].1 = true
    ·rw [if_pos c1] at hF; rw [if_pos c1]
     by_cases c2 : 0 ≤ r.2[k].2.1 ∧ r.2[k].2.1 ≤ 100000
     ·rw [if_pos c2] at hF; rw [if_pos c2]
      by_cases c3 : r.2[k].2.1 ≤ (r.2[k].2.2.length : Int)
      ·rw [if_pos c3] at hF; cases hF
      ·rw [if_neg c3] at hF; rw [if_neg c3]
       by_cases c4 : r.2[k].1 ∈ kO r.1
       ·rw [if_pos c4] at hF; cases hF
       ·rw [if_neg c4] at hF; rw [if_neg c4]
        cases k with
        | zero => rw [if_neg (by omega), Z1p (by omega) (by omega)]
        | succ k =>
         have hk1 : k < r.2.length := by omega
         have e2 : Z1x (kP r.2) (k + 1) r.2[k + 1].1 = decide (cmpS r.2[k + 1].1 r.2[k].1 ≤ 0) := by
          have : k < (kP r.2).length := by simpa [kP] using hk1
          simp only [Z1x, List.getElem?_eq_getElem this, Z7j]
         rw [e2] at hF
         rw [if_pos (by omega), e1, Z1p (by omega) (by omega), Z1 (by omega), Z2v hk1]
         by_cases c5 : cmpS r.2[k + 1].1 r.2[k].1 ≤ 0
         ·rw [if_pos (by simpa using c5)] at hF; cases hF
         ·rw [if_neg c5, Z1p (by omega) (by omega)]
     ·rw [if_neg c2] at hF; cases hF
    ·rw [if_neg c1] at hF; cases hF)
   have h' : Q5.l0 r r.2 (r.2.length : Int) 0 = some (fltR (fstF (parF r) r.2.length)) := h
   rw [h', ob_s]
   unfold fltR
   by_cases e : fstF (parF r) r.2.length = 0
   ·rw [if_pos e, Z80, e]
   ·rw [if_neg e, Zdh]
 ·rw [if_neg h0, if_neg h0]
theorem Zdt {α : Type} {l : List α} {k : Nat} {x : α} (h : l[k]? = some x) : l.set k x = l := by
 obtain ⟨hk, rfl⟩ := List.getElem?_eq_some_iff.1 h
 exact List.set_getElem_self hk
theorem Z4z {α : Type} {l : List α} {k : Nat} {x d : α} (h : l[k]? = some x) : List.getD l k d = x := by rw [List.getD, h]; rfl
theorem own_eq {r : Rcv} (g : Good r) : Qd.f r = some r := by
 have hB : BIG = 140737488355328 := rfl
 have g1 := g.done.len
 have g2 := g.len
 have l0 : ∀ (n k : Nat), r.1.length - k = n → k ≤ r.1.length → Qd.l0 (r.1.length : Int) (k : Int) [] [] r.1 r.2 = some ([], [], r.1, r.2) := by
  intro n
  induction n with
  | zero =>
   intro k hn hk
   refine Zm ?_
   simp only [Qd.s0, Zb]
   rw [if_neg (by omega)]
  | succ n ih =>
   intro k hn hk
   have hlt : k < r.1.length := by omega
   have hgk : r.1[k]? = some r.1[k] := List.getElem?_eq_getElem hlt
   have hsz : r.1[k].2.length ≤ BIG := by have := g.done.sz _ (List.getElem_mem hlt); omega
   refine (Zi ?_).trans (ih (k + 1) (by omega) (by omega))
   simp only [Qd.s0, Zb, Int.toNat_natCast, Z4z hgk, Zkd hsz, ob_s]
   rw [if_pos (by omega), Z1 (by omega), Z1 hlt, Z1 (by omega), Z1 hlt, Z1p (by omega) (by omega), Zdt hgk]
   rfl
 have l1 : ∀ (n k : Nat), r.2.length - k = n → k ≤ r.2.length → Qd.l1 (r.2.length : Int) (k : Int) [] [] r.1 r.2 (k : Int) = some ([], [], r.1, r.2, (r.2.length : Int)) := by
  intro n
  induction n with
  | zero =>
   intro k hn hk
   obtain rfl : k = r.2.length := by omega
   refine Zm ?_
   simp only [Qd.s1, Zb, Int.toNat_natCast]
   rw [if_neg (by omega)]
  | succ n ih =>
   intro k hn hk
   have hlt : k < r.2.length := by omega
   have hgk : r.2[k]? = some r.2[k] := List.getElem?_eq_getElem hlt
   have hsz : r.2[k].2.2.length ≤ BIG := by have := g.sz _ (List.getElem_mem hlt); omega
   refine (Zi ?_).trans (ih (k + 1) (by omega) (by omega))
   simp only [Qd.s1, Zb, Int.toNat_natCast, Z4z hgk, Zkd hsz, ob_s]
   rw [if_pos (by omega), Z1 (by omega), Z1 hlt, Z1 ⟨hlt, Nat.le_refl _⟩, Z1 (by omega), Z1 hlt, Z1 ⟨trivial, hlt⟩, Z1p (by omega) (by omega), Zdt hgk]
   rfl
 unfold Qd.f
 simp only [cloneO (show r.1.length ≤ 1000000 by omega), cloneP (show r.2.length ≤ 1000000 by omega), ob_s]
 have h0 := l0 _ 0 rfl (Nat.zero_le _)
 have h1 := l1 _ 0 rfl (Nat.zero_le _)
 rw [show ((0 : Nat) : Int) = 0 from rfl] at h0 h1
 rw [h0]
 simp only [ob_s]
 rw [show (((0 : Nat) : Int)) = 0 from rfl, h1, ob_s, Z1 (by simp)]
end Go.Proofs.YtnehieeplbgaiacDoor
set_option linter.unusedVariables false
set_option linter.unusedSimpArgs false
namespace Go.Proofs.YtnehieeplbgaiacDoor
open Go Go.Lib Go.Proofs.YtnehieeplbgaiacDoor.Eng
def ans (k : Int) (d : ByteArray) (n : Int) : Msg := (k, (d, (n, (0, []))))
def noM : Msg := (0, (bs_, (0, (0, []))))
abbrev Out := Msg × (Int × Rcv)
def Z22 (d : ByteArray) (b : List UInt8) (r : Rcv) : Out :=
 if dgB b = d then (if 4000 ≤ r.1.length then (noM, (16, r)) else (ans 4 d 0, (0, (insL r.1 (lbN (kO r.1) d) (d, b), r.2)))) else (ans 5 d 0, (0, r))
def partD : Par := (ByteArray.empty, ((0 : Int), []))
def pAt (r : Rcv) (d : ByteArray) : Par := List.getD r.2 (lbN (kP r.2) d) partD
def Ze (r : Rcv) (d : ByteArray) : Rcv := if d ∈ kP r.2 then (r.1, delL r.2 (lbN (kP r.2) d)) else r
def Z92 (m : Msg) (r : Rcv) : Out :=
 if m.2.1 ∈ kP r.2 ∧ (pAt r m.2.1).2.1 = m.2.2.2.1 then (ans 3 m.2.1 ((pAt r m.2.1).2.2.length : Int), (0, r)) else
 if m.2.2.2.1 = 0 then Z22 m.2.1 [] (Ze r m.2.1) else
 if 100 ≤ (Ze r m.2.1).2.length then (noM, (16, Ze r m.2.1)) else
 if 100000 < m.2.2.2.1 then (noM, (1, Ze r m.2.1)) else
 (ans 3 m.2.1 0, (0, (r.1, insL (Ze r m.2.1).2 (lbN (kP r.2) m.2.1) (m.2.1, (m.2.2.2.1, [])))))
def Z40 (m : Msg) (p : Par) : List UInt8 := p.2.2 ++ m.2.2.2.2.drop (min m.2.2.2.2.length (p.2.2.length - m.2.2.1.toNat))
def Zc4 (m : Msg) (r : Rcv) : Out :=
 if ((pAt r m.2.1).2.2.length : Int) < m.2.2.1 then (noM, (8, r)) else
 if ¬ (m.2.2.2.2.take ((pAt r m.2.1).2.2.length - m.2.2.1.toNat) = ((pAt r m.2.1).2.2.drop m.2.2.1.toNat).take m.2.2.2.2.length) then (noM, (12, r)) else
 if (pAt r m.2.1).2.1 < m.2.2.1 + (m.2.2.2.2.length : Int) then (noM, (2, r)) else
 if ((Z40 m (pAt r m.2.1)).length : Int) < (pAt r m.2.1).2.1 then
  (ans 3 m.2.1 ((Z40 m (pAt r m.2.1)).length : Int), (0, (r.1, r.2.set (lbN (kP r.2) m.2.1) ((pAt r m.2.1).1, ((pAt r m.2.1).2.1, Z40 m (pAt r m.2.1))))))
 else Z22 m.2.1 (Z40 m (pAt r m.2.1)) (r.1, delL (r.2.set (lbN (kP r.2) m.2.1) ((pAt r m.2.1).1, ((pAt r m.2.1).2.1, Z40 m (pAt r m.2.1)))) (lbN (kP r.2) m.2.1))
noncomputable def msgF (m : Msg) : Int := chkF (digB m.2.1) m.1 m.2.2.1 m.2.2.2.1 (m.2.2.2.2.length : Int)
noncomputable def Z2k (m : Msg) (r : Rcv) : Out :=
 if msgF m = 0 then
  (if m.1 = 1 ∨ m.1 = 2 ∨ m.1 = 6 then
   (if m.2.1 ∈ kO r.1 then (ans 4 m.2.1 0, (0, r)) else
    if m.1 = 1 then Z92 m r else
    if m.2.1 ∈ kP r.2 then (if m.1 = 2 then Zc4 m r else (ans 3 m.2.1 ((pAt r m.2.1).2.2.length : Int), (0, r))) else (noM, (9, r)))
   else (noM, (4, r)))
 else (noM, (msgF m, r))
noncomputable def Zfk (r : Rcv) (m : Msg) : Rcv × (Msg × Int) :=
 if chkR r = 0 then (if (Z2k m r).2.1 = 0 then ((Z2k m r).2.2, ((Z2k m r).1, 0)) else (([], []), (noM, (Z2k m r).2.1))) else (([], []), (noM, chkR r))
structure Ok (r : Rcv) : Prop where
 done : GoodO r.1
 len : r.2.length ≤ 100
 sz : ∀ p ∈ r.2, 0 ≤ p.2.1 ∧ p.2.1 ≤ 100000 ∧ (p.2.2.length : Int) < p.2.1
 ris : Rising (kP r.2)
theorem Good.ok {r : Rcv} (g : Good r) : Ok r := ⟨g.done, g.len, g.sz, g.ris⟩
theorem Zdk {d : ByteArray} {b : List UInt8} {r : Rcv} (hb : b.length ≤ BIG) (g : GoodO r.1) : Qm.f d b r.1 r.2 = some (Z22 d b r) := by
 have g1 := g.len
 have hlo : r.1.length ≤ 1000000 := by omega
 have hle := Z6j (kO r.1) d
 rw [Ze6] at hle
 unfold Qm.f Z22
 simp only [Z7s hb, ob_s, Z1b, Zb]
 by_cases h1 : dgB b = d
 ·rw [if_pos h1, if_pos h1]
  by_cases h2 : 4000 ≤ r.1.length
  ·rw [if_pos (by omega), if_pos h2]; rfl
  ·rw [if_neg (by omega), if_neg h2]
   rw [show Qi.f (r.1, r.2) d = _ from Z5p (r := (r.1, r.2)) hlo g.ris d, ob_s]
   simp only [Int.toNat_natCast]
   rw [Z1 (by omega)]
   rfl
 ·rw [if_neg h1, if_neg h1]; rfl
theorem whole1_eq : @Qs.f = @Qm.f := rfl
theorem Zd5 {β : Type} (s : Tr) (t : Option β) : mix s t = t := mix_eq s t
theorem Z6z {α : Type} {l : List α} {k : Nat} (h : k < l.length) : (delL l k).length = l.length - 1 := by simp [delL]; omega
theorem Z3i {r : Rcv} {d : ByteArray} (hr : Rising (kP r.2)) (h : d ∈ kP r.2) : ∃ hk : lbN (kP r.2) d < r.2.length, pAt r d = r.2[lbN (kP r.2) d] ∧ r.2[lbN (kP r.2) d].1 = d := by
 have h1 := (Z8m hr).1 h
 obtain ⟨h2, h3⟩ := List.getElem?_eq_some_iff.1 h1
 have h2' : lbN (kP r.2) d < r.2.length := by rwa [Z8p] at h2
 refine ⟨h2', ?_, ?_⟩
 ·unfold pAt; exact Z4z (List.getElem?_eq_getElem h2')
 ·rw [Z7j] at h3; exact h3
theorem Zk1 {m : Msg} {r : Rcv} (g : Ok r) : Qq.f m r.1 r.2 = some (Z92 m r) := by
 have g2 := g.len
 have hlo : r.2.length ≤ 1000000 := by omega
 have hle := Z6j (kP r.2) m.2.1
 rw [Z8p] at hle
 have hB : BIG = 140737488355328 := rfl
 have hp : Qn.f (r.1, r.2) m.2.1 = _ := Zb9 (r := (r.1, r.2)) hlo g.ris m.2.1
 have fin : ∀ (t : List Par) (e : Ze r m.2.1 = (r.1, t)) (hlb : lbN (kP r.2) m.2.1 ≤ t.length) (htl : t.length ≤ 100), ¬ (m.2.1 ∈ kP r.2 ∧ (pAt r m.2.1).2.1 = m.2.2.2.1) → ∀ (s1 : Tr),
   (cb (decide (m.2.2.2.1 = (0 : Int))) (ob (Qm.f m.2.1 ([] : List UInt8) r.1 t) fun r4 => (some (r4.1, r4.2.1, r4.2.2.1, r4.2.2.2))) (let y5 : Int := ((List.length t : Nat) : Int); (cb (decide ((100 : Int) ≤ y5)) (some (((0 : Int), (bs_, ((0 : Int), ((0 : Int), ([] : List UInt8))))), (16 : Int), r.1, t)) (cb (decide ((100000 : Int) < m.2.2.2.1)) (some (((0 : Int), (bs_, ((0 : Int), ((0 : Int), ([] : List UInt8))))), (1 : Int), r.1, t)) (mix s1 (ck (0 ≤ ((lbN (kP r.2) m.2.1 : Nat) : Int) ∧ ((lbN (kP r.2) m.2.1 : Nat) : Int) ≤ (List.length t : Int) ∧ (List.length t + 1) * 48 ≤ 140737488355328) (some (((3 : Int), (m.2.1, ((0 : Int), ((0 : Int), ([] : List UInt8))))), (0 : Int), r.1, (insL t (lbN (kP r.2) m.2.1) (m.2.1, (m.2.2.2.1, ([] : List UInt8))))))))))))
   = some (Z92 m r) := by
  intro t e hlb htl hno s1
  have hw := Zdk (d := m.2.1) (b := []) (r := (r.1, t)) (by simp) g.done
  unfold Z92
  rw [if_neg hno, e]
  simp only [Zb, Zd5]
  by_cases h1 : m.2.2.2.1 = 0
  ·rw [if_pos h1, if_pos h1]
   rw [show Qm.f m.2.1 ([] : List UInt8) r.1 t = _ from hw, ob_s]
  ·rw [if_neg h1, if_neg h1]
   by_cases h2 : 100 ≤ t.length
   ·rw [if_pos (by omega), if_pos h2]; rfl
   ·rw [if_neg (by omega), if_neg h2]
    by_cases h3 : 100000 < m.2.2.2.1
    ·rw [if_pos h3, if_pos h3]; rfl
    ·rw [if_neg h3, if_neg h3, Z1 (by omega)]; rfl
 unfold Qq.f
 rw [hp, ob_s]
 by_cases hm : m.2.1 ∈ kP r.2
 ·obtain ⟨hk, hpa, _⟩ := Z3i g.ris hm
  have hgk : r.2[lbN (kP r.2) m.2.1]? = some r.2[lbN (kP r.2) m.2.1] := List.getElem?_eq_getElem hk
  simp only [hm, decide_true, cb_t, Int.toNat_natCast, Z4z hgk]
  rw [Z1 (by omega), Z1 hk, Z1 hk, Zb]
  by_cases he : r.2[lbN (kP r.2) m.2.1].2.1 = m.2.2.2.1
  ·rw [if_pos he, Z1 (by omega), Z1 hk, Z1 hk, Z1 hk]
   unfold Z92
   rw [if_pos ⟨hm, by rw [hpa]; exact he⟩, hpa]
   rfl
  ·rw [if_neg he, Z1p (by omega) (by omega), Z1 ⟨by omega, by omega, by first | trivial | omega⟩]
   exact fin (delL r.2 (lbN (kP r.2) m.2.1)) (by unfold Ze; rw [if_pos hm]) (by rw [Z6z hk]; omega) (by rw [Z6z hk]; omega) (fun h => he (by rw [← hpa]; exact h.2)) _
 ·simp only [hm, decide_false, cb_f, Int.toNat_natCast]
  exact fin r.2 (by unfold Ze; rw [if_neg hm]) hle g2 (fun h => hm h.1) _
end Go.Proofs.YtnehieeplbgaiacDoor
set_option linter.unusedVariables false
set_option linter.unusedSimpArgs false
namespace Go.Proofs.YtnehieeplbgaiacDoor
open Go Go.Lib Go.Proofs.YtnehieeplbgaiacDoor.Eng
theorem Z5i {α : Type} {l : List α} {k : Nat} {x d : α} (h : k < l.length) : List.getD (l.set k x) k d = x := by
 rw [List.getD, List.getElem?_set_self h]; rfl
theorem both_tr {β : Type} {a b x : Option β} (h1 : a = x) (h2 : b = x) : both a b = x := by rw [h1, h2]; exact Zcb x
theorem Zi4 {dg : Bool} {k p s n : Int} (h : chkF dg k p s n = 0) : (1 ≤ k ∧ k ≤ 6) ∧ dg = true ∧ (0 ≤ p ∧ p ≤ 2000000) ∧ (0 ≤ s ∧ s ≤ 2000000) ∧ n ≤ 65536 ∧ (p ≠ 0 → k = 2 ∨ k = 3) ∧ (s ≠ 0 → k = 1) ∧ (k = 2 ↔ 0 < n) := by
 unfold chkF at h
 split at h
 ·cases h
 ·rename_i h1
  split at h
  ·cases h
  ·rename_i h2
   split at h
   ·cases h
   ·rename_i h3
    split at h
    ·cases h
    ·rename_i h4
     split at h
     ·cases h
     ·rename_i h5
      split at h
      ·cases h
      ·rename_i h6
       refine ⟨by omega, by cases dg <;> simp_all, by omega, by omega, by omega, fun hp => ?_, fun hs => ?_, ?_⟩
       ·by_cases c : k = 2 ∨ k = 3
        ·exact c
        ·exact absurd (.inl ⟨hp, c⟩) h6
       ·by_cases c : k = 1
        ·exact c
        ·exact absurd (.inr (.inl ⟨hs, c⟩)) h6
       ·by_cases c : k = 2 ↔ 0 < n
        ·exact c
        ·exact absurd (.inr (.inr c)) h6
theorem Ziv {b : List UInt8} {f n : Nat} : (b.take (f + n)).drop f = (b.drop f).take n := by
 rw [List.drop_take, Nat.add_sub_cancel_left]
theorem data_eq {m : Msg} {r : Rcv} (g : Ok r) (hm : m.2.1 ∈ kP r.2) (hf0 : 0 ≤ m.2.2.1) (hf1 : m.2.2.1 ≤ 2000000) (hn : m.2.2.2.2.length ≤ 65536) :
  Qv.f ((lbN (kP r.2) m.2.1 : Nat) : Int) m r.1 r.2 = some (Zc4 m r) := by
 obtain ⟨hk, hpa, _⟩ := Z3i g.ris hm
 have hgk : r.2[lbN (kP r.2) m.2.1]? = some r.2[lbN (kP r.2) m.2.1] := List.getElem?_eq_getElem hk
 have hsz := g.sz _ (List.getElem_mem hk)
 have g2 := g.len
 unfold Zc4
 rw [hpa]
 generalize hkk : lbN (kP r.2) m.2.1 = k at *
 generalize hpp : r.2[k] = p at *
 obtain ⟨kd, d, from_, sz_, bs⟩ := m
 simp only at hm hf0 hf1 hn hkk ⊢
 obtain ⟨f, rfl⟩ := Int.eq_ofNat_of_zero_le hf0
 obtain ⟨q1, q2, q3⟩ := p
 simp only at hsz
 obtain ⟨s0, s1, s2⟩ := hsz
 simp only [Qv.f, Int.toNat_natCast, Z4z hgk]
 rw [Z1 (by omega), Z1 hk, Z1 hk, Z1 hk, Z1 hk, Zb]
 simp only [Int.ofNat_eq_natCast] at *
 by_cases c1 : (q3.length : Int) < (f : Int)
 ·rw [if_pos c1, if_pos c1]; rfl
 rw [if_neg c1, if_neg c1, Z1 hk, Z1 hk, Z1 hk, Z1 hk, Z1p (by omega) (by omega)]
 have hmin : min ((bs.length : Nat) : Int) (((q3.length : Nat) : Int) - (f : Int)) = ((min bs.length (q3.length - f) : Nat) : Int) := by omega
 simp only [hmin, Int.toNat_natCast]
 have hle : min bs.length (q3.length - f) ≤ bs.length := Nat.min_le_left _ _
 rw [Z1 (by omega), Z1 hk, Z1 hk, Z1 hk, Z1p (by omega) (by omega), Z1 (by omega)]
 have e1 : ((f : Int) + ((min bs.length (q3.length - f) : Nat) : Int)).toNat = f + min bs.length (q3.length - f) := by omega
 rw [e1, Ziv]
 have heq : (bs.take (min bs.length (q3.length - f)) = (q3.drop f).take (min bs.length (q3.length - f))) ↔ (bs.take (q3.length - f) = (q3.drop f).take bs.length) := by
  have h1 : bs.take (min bs.length (q3.length - f)) = bs.take (q3.length - f) := by
   rcases Nat.le_total bs.length (q3.length - f) with h | h
   ·rw [Nat.min_eq_left h, List.take_of_length_le (Nat.le_refl _), List.take_of_length_le h]
   ·rw [Nat.min_eq_right h]
  have h2 : (q3.drop f).take (min bs.length (q3.length - f)) = (q3.drop f).take bs.length := by
   rcases Nat.le_total bs.length (q3.length - f) with h | h
   ·rw [Nat.min_eq_left h]
   ·rw [Nat.min_eq_right h, List.take_of_length_le (by simp), List.take_of_length_le (by simpa using h)]
  rw [h1, h2]
 rw [equalB2 _ _ (by rw [List.length_take]; omega), ob_s, Z1b, Zb]
 by_cases c2 : bs.take (q3.length - f) = (q3.drop f).take bs.length
 ·rw [if_pos (heq.2 c2), if_neg (not_not_intro c2), Z1p (by omega) (by omega), Z1 hk, Z1 hk, Z1 hk, Zb]
  by_cases c3 : q2 < (f : Int) + (bs.length : Int)
  ·rw [if_pos c3, if_pos c3]; rfl
  rw [if_neg c3, if_neg c3, Z1 hk, Z1 hk]
  have hdl : (bs.drop (min bs.length (q3.length - f))).length ≤ 65536 := by rw [List.length_drop]; omega
  have hml : (Z40 (kd, d, (f : Int), sz_, bs) (q1, q2, q3)) = q3 ++ bs.drop (min bs.length (q3.length - f)) := by
   simp only [Z40, Int.toNat_natCast]
  rw [hml]
  have hall : (q3 ++ bs.drop (min bs.length (q3.length - f))).length ≤ BIG := by
   have : BIG = 140737488355328 := rfl
   rw [List.length_append]; omega
  generalize hM : q3 ++ bs.drop (min bs.length (q3.length - f)) = M at *
  have hset : k < (r.2.set k (q1, q2, M)).length := by rw [List.length_set]; exact hk
  have fin : ∀ (z : Option (Msg × Int × List Obj × List Par)), z = some (if ((M.length : Nat) : Int) < q2 then (ans 3 d ((M.length : Nat) : Int), (0, (r.1, r.2.set k (q1, (q2, M))))) else Z22 d M (r.1, delL (r.2.set k (q1, (q2, M))) k)) → z = some (if ((M.length : Nat) : Int) < q2 then (ans 3 d ((M.length : Nat) : Int), (0, (r.1, r.2.set k (q1, (q2, M))))) else Z22 d M (r.1, delL (r.2.set k (q1, (q2, M))) k)) := fun _ h => h
  have tail : (ck (k < List.length (List.set r.2 k (q1, q2, M))) (cb (decide (((M.length : Nat) : Int) < q2)) (some ((ans 3 d ((M.length : Nat) : Int), (0, (r.1, r.2.set k (q1, (q2, M))))) : Out)) (some (Z22 d M (r.1, delL (r.2.set k (q1, (q2, M))) k))))) = some (if ((M.length : Nat) : Int) < q2 then (ans 3 d ((M.length : Nat) : Int), (0, (r.1, r.2.set k (q1, (q2, M))))) else Z22 d M (r.1, delL (r.2.set k (q1, (q2, M))) k)) := by
   rw [Z1 hset, Zb]
   split <;> rfl
  have hw := Zdk (d := d) (b := M) (r := (r.1, delL (r.2.set k (q1, (q2, M))) k)) hall g.done
  have hin : InR (((k : Nat) : Int) + 1) := ⟨by omega, by omega⟩
  refine both_tr ?_ ?_
  all_goals
   simp only [Z5i hk]
   simp only [whole1_eq, hw, ob_s]
   simp only [Z1 hk, Z1 hset, Z1 hin]
   repeat rw [Z1 (by first | omega | exact ⟨hk, by omega⟩ | exact ⟨trivial, hk⟩)]
   rw [Zb]
   by_cases c4 : ((M.length : Nat) : Int) < q2
   ·rw [if_pos c4, if_pos c4]; rfl
   ·rw [if_neg c4, if_neg c4]
    first
    | rfl
    | (rw [Z1 ⟨hset, hset, by first | trivial | omega, by first | trivial | omega⟩])
 ·rw [if_neg (fun h => c2 (heq.1 h)), if_pos c2]; rfl
end Go.Proofs.YtnehieeplbgaiacDoor
set_option linter.unusedVariables false
set_option linter.unusedSimpArgs false
namespace Go.Proofs.YtnehieeplbgaiacDoor
open Go Go.Lib Go.Proofs.YtnehieeplbgaiacDoor.Eng
theorem take_eq {m : Msg} {r : Rcv} (g : Ok r) : Qw.f m r.1 r.2 = some (Z2k m r) := by
 have hlo : r.1.length ≤ 1000000 := by have := g.done.len; omega
 have hlp : r.2.length ≤ 1000000 := by have := g.len; omega
 have hd : Qi.f (r.1, r.2) m.2.1 = _ := Z5p (r := (r.1, r.2)) hlo g.done.ris m.2.1
 have hp : Qn.f (r.1, r.2) m.2.1 = _ := Zb9 (r := (r.1, r.2)) hlp g.ris m.2.1
 have hc : Qk.f m (m.2.2.2.2.length : Int) = some (msgF m) := chk_eq (Z3o m.2.1)
 unfold Qw.f Z2k
 simp only [hc, ob_s, hd, hp, Zk1 g]
 simp only [Z1b, Zb]
 by_cases c0 : msgF m = 0
 ·rw [if_pos c0, if_pos c0]
  obtain ⟨f1, _, f3, f4, f5, _⟩ := Zi4 c0
  have hdat : m.2.1 ∈ kP r.2 → Qv.f ((lbN (kP r.2) m.2.1 : Nat) : Int) m r.1 r.2 = some (Zc4 m r) := fun h => data_eq g h f3.1 f3.2 (by omega)
  have hst : m.2.1 ∈ kP r.2 → (ck (0 ≤ ((lbN (kP r.2) m.2.1 : Nat) : Int) ∧ ((lbN (kP r.2) m.2.1 : Nat) : Int) < ((List.length r.2 : Nat) : Int)) (ck ((Int.toNat ((lbN (kP r.2) m.2.1 : Nat) : Int)) < List.length r.2) (ck ((Int.toNat ((lbN (kP r.2) m.2.1 : Nat) : Int)) < List.length r.2) (ck ((Int.toNat ((lbN (kP r.2) m.2.1 : Nat) : Int)) < List.length r.2) (some ((((3 : Int), (m.2.1, (((List.length (List.getD r.2 (Int.toNat ((lbN (kP r.2) m.2.1 : Nat) : Int)) (ByteArray.empty, ((0 : Int), ([] : (List UInt8))))).2.2 : Nat) : Int), ((0 : Int), ([] : List UInt8))))), (0 : Int), r.1, r.2) : Out)))))) = some (ans 3 m.2.1 ((pAt r m.2.1).2.2.length : Int), (0, r)) := fun h => by
   obtain ⟨hk, hpa, _⟩ := Z3i g.ris h
   have hgk : r.2[lbN (kP r.2) m.2.1]? = some r.2[lbN (kP r.2) m.2.1] := List.getElem?_eq_getElem hk
   rw [Int.toNat_natCast, Z1 (by omega), Z1 hk, Z1 hk, Z1 hk, Z4z hgk, hpa]
   rfl
  by_cases k1 : m.1 = 1
  ·rw [if_pos k1, if_pos (show m.1 = 1 ∨ m.1 = 2 ∨ m.1 = 6 from .inl k1)]
   by_cases h1 : m.2.1 ∈ kO r.1
   ·rw [if_pos h1, if_pos h1]; rfl
   ·rw [if_neg h1, if_neg h1, if_pos k1, if_pos k1]
  ·rw [if_neg k1]
   by_cases k2 : m.1 = 2
   ·rw [if_pos k2, if_pos (show m.1 = 1 ∨ m.1 = 2 ∨ m.1 = 6 from .inr (.inl k2))]
    by_cases h1 : m.2.1 ∈ kO r.1
    ·rw [if_pos h1, if_pos h1]; rfl
    ·rw [if_neg h1, if_neg h1, if_neg k1, if_neg k1]
     by_cases h2 : m.2.1 ∈ kP r.2
     ·rw [if_pos h2, if_pos h2, if_pos k2, if_pos k2, hdat h2, ob_s]
     ·rw [if_neg h2, if_neg h2]; rfl
   ·rw [if_neg k2]
    by_cases k6 : m.1 = 6
    ·rw [if_pos k6, if_pos (show m.1 = 1 ∨ m.1 = 2 ∨ m.1 = 6 from .inr (.inr k6))]
     by_cases h1 : m.2.1 ∈ kO r.1
     ·rw [if_pos h1, if_pos h1]; rfl
     ·rw [if_neg h1, if_neg h1, if_neg k1, if_neg k1]
      by_cases h2 : m.2.1 ∈ kP r.2
      ·rw [if_pos h2, if_pos h2, if_neg k2, if_neg k2]
       exact hst h2
      ·rw [if_neg h2, if_neg h2]; rfl
    ·rw [if_neg k6, if_neg (show ¬ (m.1 = 1 ∨ m.1 = 2 ∨ m.1 = 6) by omega)]; rfl
 ·rw [if_neg c0, if_neg c0]; rfl
theorem Zii {r : Rcv} {m : Msg} (hs : szO r.1) : Qz.f r m = some (Zfk r m) := by
 unfold Qz.f Zfk
 simp only [Z8c hs, ob_s, Z1b, Zb, Zd5]
 by_cases c0 : chkR r = 0
 ·rw [if_pos c0, if_pos c0]
  have g := Z7w.1 c0
  rw [own_eq g, ob_s, take_eq g.ok, ob_s]
  by_cases c1 : (Z2k m r).2.1 = 0
  ·rw [if_pos c1, if_pos c1]
  ·rw [if_neg c1, if_neg c1]; rfl
 ·rw [if_neg c0, if_neg c0]; rfl
end Go.Proofs.YtnehieeplbgaiacDoor
set_option linter.unusedVariables false
set_option linter.unusedSimpArgs false
namespace Go.Proofs.YtnehieeplbgaiacDoor
open Go Go.Lib Go.Proofs.YtnehieeplbgaiacDoor.Eng
theorem Z5f {l : List ByteArray} : Rising l ↔ l.Pairwise (fun a b => cmpS a b < 0) := by
 rw [List.pairwise_iff_getElem]
 exact ⟨fun h i j hi hj hij => h i j hj hij, fun h i j hj hij => h i j (by omega) hj hij⟩
theorem Z27 {α : Type} {l : List α} {k : Nat} {x y : α} : y ∈ insL l k x ↔ y = x ∨ y ∈ l := by
 unfold insL
 have h : y ∈ l ↔ y ∈ l.take k ∨ y ∈ l.drop k := by
  rw [← List.mem_append, List.take_append_drop]
 rw [List.mem_append, List.mem_cons, h]
 constructor
 ·rintro (h | h | h)
  ·exact .inr (.inl h)
  ·exact .inl h
  ·exact .inr (.inr h)
 ·rintro (h | h | h)
  ·exact .inr (.inl h)
  ·exact .inl h
  ·exact .inr (.inr h)
theorem Ze0 {α β : Type} (f : α → β) (l : List α) (k : Nat) (x : α) : (insL l k x).map f = insL (l.map f) k (f x) := by
 simp [insL, List.map_take, List.map_drop]
theorem Zje {α β : Type} (f : α → β) (l : List α) (k : Nat) : (delL l k).map f = delL (l.map f) k := by
 simp [delL, List.map_take, List.map_drop]
theorem Zeh {α : Type} (l : List α) (k : Nat) (x : α) : delL (l.set k x) k = delL l k := by
 unfold delL
 rw [List.take_set_of_le (Nat.le_refl k), List.drop_set_of_lt (by omega)]
theorem Z9v {α : Type} {l : List α} {k : Nat} {x : α} (h : k ≤ l.length) : (insL l k x).length = l.length + 1 := by simp [insL]; omega
theorem Ze7 {α : Type} {l : List α} {k : Nat} {x : α} (h : k ≤ l.length) : (insL l k x)[k]? = some x := by
 unfold insL
 rw [List.getElem?_append_right (by rw [List.length_take]; omega), List.length_take, Nat.min_eq_left h, Nat.sub_self]; rfl
theorem Zeg {α : Type} (l : List α) (k : Nat) : (delL l k).Sublist l := by
 unfold delL
 have h : (l.take k ++ l.drop (k + 1)).Sublist (l.take k ++ l.drop k) := List.Sublist.append_left (by
  rw [← List.drop_drop]
  exact List.drop_sublist _ _) _
 rwa [List.take_append_drop] at h
theorem Zf2 {l : List ByteArray} (h : Rising l) (k : Nat) : Rising (delL l k) := Z5f.2 ((Z5f.1 h).sublist (Zeg l k))
theorem lbN_gt {l : List ByteArray} (hr : Rising l) {s : ByteArray} (hs : s ∉ l) {j : Nat} (hj : j < l.length) (h : lbN l s ≤ j) : cmpS s l[j] < 0 := by
 have h0 : ¬ cmpS l[j] s < 0 := by
  rcases Nat.lt_or_ge (lbN l s) j with h1 | h1
  ·intro hc
   exact Zk7 (l := l) (s := s) (by omega) (Z39 (hr (lbN l s) j hj h1) hc)
  ·have e : j = lbN l s := by omega
   subst e
   exact Zk7 hj
 have h1 : cmpS l[j] s ≠ 0 := fun h => hs ((Z2q _ _).1 h ▸ List.getElem_mem hj)
 have := Z5r s l[j]
 omega
theorem Z8h {l : List ByteArray} (hr : Rising l) {s : ByteArray} (hs : s ∉ l) : Rising (insL l (lbN l s) s) := by
 have hp := Z5f.1 hr
 refine Z5f.2 ?_
 unfold insL
 rw [List.pairwise_append, List.pairwise_cons]
 have hlo : ∀ x ∈ l.take (lbN l s), cmpS x s < 0 := fun x hx => by
  obtain ⟨j, hj, rfl⟩ := List.getElem_of_mem hx
  rw [List.getElem_take]
  rw [List.length_take] at hj
  exact Zh2 (by omega) (by omega)
 have hhi : ∀ x ∈ l.drop (lbN l s), cmpS s x < 0 := fun x hx => by
  obtain ⟨j, hj, rfl⟩ := List.getElem_of_mem hx
  rw [List.getElem_drop]
  rw [List.length_drop] at hj
  exact lbN_gt hr hs (by omega) (by omega)
 refine ⟨hp.sublist (List.take_sublist _ _), ⟨hhi, hp.sublist (List.drop_sublist _ _)⟩, fun a ha b hb => ?_⟩
 rcases List.mem_cons.1 hb with rfl | hb
 ·exact hlo a ha
 ·exact Z39 (hlo a ha) (hhi b hb)
theorem Z7u (s : ByteArray) : cmpS s s = 0 := (Z2q s s).2 rfl
theorem lbN_ins {l : List ByteArray} {s : ByteArray} : lbN (insL l (lbN l s) s) s = lbN l s := by
 have hle := Z6j l s
 refine lbN_of _ _ _ (by rw [Z9v hle]; omega) (fun k h hk => ?_) (fun h => ?_)
 ·have e : (insL l (lbN l s) s)[k]? = l[k]? := by
   unfold insL
   rw [List.getElem?_append_left (by rw [List.length_take]; omega), List.getElem?_take, if_pos hk]
  have hk' : k < l.length := by omega
  rw [List.getElem?_eq_getElem h, List.getElem?_eq_getElem hk'] at e
  injection e with e
  rw [e]; exact Zh2 hk' hk
 ·have e := Ze7 (l := l) (x := s) hle
  rw [List.getElem?_eq_getElem h] at e
  injection e with e
  rw [e, Z7u]; omega
theorem lbN_del {l : List ByteArray} (hr : Rising l) {s : ByteArray} (hs : s ∈ l) : lbN (delL l (lbN l s)) s = lbN l s ∧ s ∉ delL l (lbN l s) := by
 have h1 := (Z8m hr).1 hs
 obtain ⟨hk, h2⟩ := List.getElem?_eq_some_iff.1 h1
 have hlo : ∀ j : Nat, ∀ h : j < (delL l (lbN l s)).length, j < lbN l s → cmpS (delL l (lbN l s))[j] s < 0 := fun j h hj => by
  have e : (delL l (lbN l s))[j]? = l[j]? := by
   unfold delL
   rw [List.getElem?_append_left (by rw [List.length_take]; omega), List.getElem?_take, if_pos hj]
  have hj' : j < l.length := by omega
  rw [List.getElem?_eq_getElem h, List.getElem?_eq_getElem hj'] at e
  injection e with e
  rw [e]; exact Zh2 hj' hj
 have hhi : ∀ j : Nat, ∀ h : j < (delL l (lbN l s)).length, lbN l s ≤ j → cmpS s (delL l (lbN l s))[j] < 0 := fun j h hj => by
  have hl := Z6z hk
  have e : (delL l (lbN l s))[j]? = l[j + 1]? := by
   unfold delL
   rw [List.getElem?_append_right (by rw [List.length_take]; omega), List.length_take, Nat.min_eq_left (by omega), List.getElem?_drop]
   congr 1; omega
  have hj' : j + 1 < l.length := by omega
  rw [List.getElem?_eq_getElem h, List.getElem?_eq_getElem hj'] at e
  injection e with e
  rw [e]
  have := hr (lbN l s) (j + 1) hj' (by omega)
  rwa [h2] at this
 refine ⟨lbN_of _ _ _ (by rw [Z6z hk]; omega) hlo (fun h => ?_), fun hm => ?_⟩
 ·have := hhi _ h (Nat.le_refl _)
  have h4 := Z5r s (delL l (lbN l s))[lbN l s]
  omega
 ·obtain ⟨j, hj, e⟩ := List.getElem_of_mem hm
  rcases Nat.lt_or_ge j (lbN l s) with h | h
  ·have := hlo j hj h
   rw [e, Z7u] at this; omega
  ·have := hhi j hj h
   rw [e, Z7u] at this; omega
theorem Zh9 (l : List Obj) (k : Nat) (o : Obj) : kO (insL l k o) = insL (kO l) k o.1 := Ze0 _ _ _ _
theorem Zh7 (l : List Par) (k : Nat) (o : Par) : kP (insL l k o) = insL (kP l) k o.1 := Ze0 _ _ _ _
theorem Zh8 (l : List Par) (k : Nat) : kP (delL l k) = delL (kP l) k := Zje _ _ _
theorem Zk8 {l : List Par} {k : Nat} {p : Par} (h : ∀ hk : k < l.length, l[k].1 = p.1) : kP (l.set k p) = kP l := by
 unfold kP
 apply List.ext_getElem?
 intro i
 rw [List.getElem?_map, List.getElem?_map, List.getElem?_set]
 by_cases e : k = i
 ·subst e
  rw [if_pos rfl]
  by_cases hk : k < l.length
  ·rw [if_pos hk, List.getElem?_eq_getElem hk]; simp [h hk]
  ·rw [if_neg hk, List.getElem?_eq_none (by omega)]
 ·rw [if_neg e]
theorem GoodO.ins {l : List Obj} (g : GoodO l) {b : List UInt8} (hl : l.length < 4000) (hb : b.length ≤ 2000000) (hd : dgB b ∉ kO l) : GoodO (insL l (lbN (kO l) (dgB b)) (dgB b, b)) := by
 have hle := Z6j (kO l) (dgB b)
 rw [Ze6] at hle
 refine ⟨by rw [Z9v hle]; omega, fun o ho => ?_, fun o ho => ?_, by rw [Zh9]; exact Z8h g.ris hd⟩
 ·rcases Z27.1 ho with rfl | h
  ·rfl
  ·exact g.dig o h
 ·rcases Z27.1 ho with rfl | h
  ·exact hb
  ·exact g.sz o h
theorem Z25 {r : Rcv} (g : Good r) (d : ByteArray) : Good (Ze r d) ∧ d ∉ kP (Ze r d).2 ∧ lbN (kP (Ze r d).2) d = lbN (kP r.2) d ∧ (Ze r d).1 = r.1 ∧ (Ze r d).2.Sublist r.2 := by
 unfold Ze
 by_cases h : d ∈ kP r.2
 ·rw [if_pos h]
  obtain ⟨h1, h2⟩ := lbN_del g.ris h
  have hs := Zeg r.2 (lbN (kP r.2) d)
  refine ⟨⟨g.done, Nat.le_trans hs.length_le g.len, fun p hp => g.dig p (hs.subset hp), fun p hp => g.sz p (hs.subset hp), fun p hp => g.not p (hs.subset hp), ?_⟩, ?_, ?_, rfl, hs⟩
  ·show Rising (kP (delL r.2 _)); rw [Zh8]; exact Zf2 g.ris _
  ·show d ∉ kP (delL r.2 _); rw [Zh8]; exact h2
  ·show lbN (kP (delL r.2 _)) d = _; rw [Zh8]; exact h1
 ·rw [if_neg h]
  exact ⟨g, h, rfl, rfl, List.Sublist.refl _⟩
theorem Zcj {r : Rcv} (g : Good r) {d : ByteArray} {b : List UInt8} (hp : d ∉ kP r.2) (ho : d ∉ kO r.1) (hb : b.length ≤ 2000000) {a : Msg} {x : Rcv} (h : Z22 d b r = (a, (0, x))) :
  Good x ∧ ((a = ans 5 d 0 ∧ x = r) ∨ (a = ans 4 d 0 ∧ dgB b = d ∧ x = (insL r.1 (lbN (kO r.1) d) (d, b), r.2))) := by
 unfold Z22 at h
 by_cases h1 : dgB b = d
 ·rw [if_pos h1] at h
  by_cases h2 : 4000 ≤ r.1.length
  ·rw [if_pos h2] at h; cases h
  ·rw [if_neg h2] at h
   cases h
   have h0 : dgB b ∉ kO r.1 := by rw [h1]; exact ho
   have g1 := g.done.ins (b := b) (by omega) hb h0
   rw [h1] at g1
   refine ⟨⟨g1, g.len, g.dig, g.sz, fun p hpm => ?_, g.ris⟩, .inr ⟨rfl, h1, rfl⟩⟩
   show p.1 ∉ kO (insL r.1 _ (d, b))
   rw [Zh9, Z27]
   rintro (h | h)
   ·exact hp (by have h' : p.1 = d := h; rw [← h']; exact List.mem_map_of_mem hpm)
   ·exact g.not p hpm h
 ·rw [if_neg h1] at h
  cases h
  exact ⟨g, .inl ⟨rfl, rfl⟩⟩
theorem Zjc {m : Msg} {p : Par} (hf : 0 ≤ m.2.2.1) (h : ¬ (p.2.2.length : Int) < m.2.2.1) : (Z40 m p).length = max p.2.2.length (m.2.2.1.toNat + m.2.2.2.2.length) := by
 unfold Z40
 rw [List.length_append, List.length_drop]
 omega
end Go.Proofs.YtnehieeplbgaiacDoor
set_option linter.unusedVariables false
set_option linter.unusedSimpArgs false
namespace Go.Proofs.YtnehieeplbgaiacDoor
open Go Go.Lib Go.Proofs.YtnehieeplbgaiacDoor.Eng
inductive Took (m : Msg) (r : Rcv) : Msg → Rcv → Prop
 | done (h : m.2.1 ∈ kO r.1) : Took m r (ans 4 m.2.1 0) r
 | have_ (h0 : m.2.1 ∉ kO r.1) (h : m.2.1 ∈ kP r.2) (hk : m.1 = 1 ∧ (pAt r m.2.1).2.1 = m.2.2.2.1 ∨ m.1 = 6) : Took m r (ans 3 m.2.1 ((pAt r m.2.1).2.2.length : Int)) r
 | part (h0 : m.2.1 ∉ kO r.1) (hk : m.1 = 1) (h1 : m.2.2.2.1 ≠ 0) (h2 : (Ze r m.2.1).2.length < 100) (h3 : m.2.2.2.1 ≤ 100000) :
   Took m r (ans 3 m.2.1 0) (r.1, insL (Ze r m.2.1).2 (lbN (kP r.2) m.2.1) (m.2.1, (m.2.2.2.1, [])))
 | more (h0 : m.2.1 ∉ kO r.1) (h : m.2.1 ∈ kP r.2) (hk : m.1 = 2) (h1 : ¬ ((pAt r m.2.1).2.2.length : Int) < m.2.2.1) (h2 : m.2.2.2.2.take ((pAt r m.2.1).2.2.length - m.2.2.1.toNat) = ((pAt r m.2.1).2.2.drop m.2.2.1.toNat).take m.2.2.2.2.length)
   (h3 : ¬ (pAt r m.2.1).2.1 < m.2.2.1 + (m.2.2.2.2.length : Int)) (h4 : ((Z40 m (pAt r m.2.1)).length : Int) < (pAt r m.2.1).2.1) :
   Took m r (ans 3 m.2.1 ((Z40 m (pAt r m.2.1)).length : Int)) (r.1, r.2.set (lbN (kP r.2) m.2.1) ((pAt r m.2.1).1, ((pAt r m.2.1).2.1, Z40 m (pAt r m.2.1))))
 | whole (h0 : m.2.1 ∉ kO r.1) (b : List UInt8) (hb : m.1 = 1 ∧ m.2.2.2.1 = 0 ∧ b = [] ∧ ¬ (m.2.1 ∈ kP r.2 ∧ (pAt r m.2.1).2.1 = m.2.2.2.1) ∨ m.1 = 2 ∧ m.2.1 ∈ kP r.2 ∧ b = Z40 m (pAt r m.2.1) ∧ (b.length : Int) = (pAt r m.2.1).2.1 ∧ ¬ ((pAt r m.2.1).2.2.length : Int) < m.2.2.1 ∧ m.2.2.2.2.take ((pAt r m.2.1).2.2.length - m.2.2.1.toNat) = ((pAt r m.2.1).2.2.drop m.2.2.1.toNat).take m.2.2.2.2.length) (hl : b.length ≤ 100000) {a : Msg} {x : Rcv} (hw : Z22 m.2.1 b (Ze r m.2.1) = (a, (0, x))) : Took m r a x
theorem Zbn {m : Msg} (h : msgF m = 0) : (1 ≤ m.1 ∧ m.1 ≤ 6) ∧ digB m.2.1 = true ∧ (0 ≤ m.2.2.1 ∧ m.2.2.1 ≤ 2000000) ∧ (0 ≤ m.2.2.2.1 ∧ m.2.2.2.1 ≤ 2000000) ∧ (m.2.2.2.2.length : Int) ≤ 65536 ∧ (m.2.2.1 ≠ 0 → m.1 = 2 ∨ m.1 = 3) ∧ (m.2.2.2.1 ≠ 0 → m.1 = 1) ∧ (m.1 = 2 ↔ 0 < (m.2.2.2.2.length : Int)) := Zi4 h
theorem Zct {m : Msg} {r : Rcv} (g : Good r) {a : Msg} {x : Rcv} (h : Z2k m r = (a, (0, x))) : msgF m = 0 ∧ (m.1 = 1 ∨ m.1 = 2 ∨ m.1 = 6) ∧ Took m r a x := by
 unfold Z2k at h
 by_cases c0 : msgF m = 0
 ·rw [if_pos c0] at h
  obtain ⟨_, _, f3, f4, f5, _⟩ := Zbn c0
  by_cases c1 : m.1 = 1 ∨ m.1 = 2 ∨ m.1 = 6
  ·rw [if_pos c1] at h
   refine ⟨c0, c1, ?_⟩
   by_cases c2 : m.2.1 ∈ kO r.1
   ·rw [if_pos c2] at h
    cases h
    exact .done c2
   ·rw [if_neg c2] at h
    by_cases k1 : m.1 = 1
    ·rw [if_pos k1] at h
     unfold Z92 at h
     by_cases c3 : m.2.1 ∈ kP r.2 ∧ (pAt r m.2.1).2.1 = m.2.2.2.1
     ·rw [if_pos c3] at h
      cases h
      exact .have_ c2 c3.1 (.inl ⟨k1, c3.2⟩)
     ·rw [if_neg c3] at h
      by_cases c4 : m.2.2.2.1 = 0
      ·rw [if_pos c4] at h
       exact .whole c2 [] (.inl ⟨k1, c4, rfl, c3⟩) (by simp) h
      ·rw [if_neg c4] at h
       by_cases c5 : 100 ≤ (Ze r m.2.1).2.length
       ·rw [if_pos c5] at h; cases h
       ·rw [if_neg c5] at h
        by_cases c6 : 100000 < m.2.2.2.1
        ·rw [if_pos c6] at h; cases h
        ·rw [if_neg c6] at h
         cases h
         exact .part c2 k1 c4 (by omega) (by omega)
    ·rw [if_neg k1] at h
     by_cases c3 : m.2.1 ∈ kP r.2
     ·rw [if_pos c3] at h
      by_cases k2 : m.1 = 2
      ·rw [if_pos k2] at h
       unfold Zc4 at h
       by_cases d1 : ((pAt r m.2.1).2.2.length : Int) < m.2.2.1
       ·rw [if_pos d1] at h; cases h
       rw [if_neg d1] at h
       by_cases d2 : m.2.2.2.2.take ((pAt r m.2.1).2.2.length - m.2.2.1.toNat) = ((pAt r m.2.1).2.2.drop m.2.2.1.toNat).take m.2.2.2.2.length
       ·rw [if_neg (not_not_intro d2)] at h
        by_cases d3 : (pAt r m.2.1).2.1 < m.2.2.1 + (m.2.2.2.2.length : Int)
        ·rw [if_pos d3] at h; cases h
        rw [if_neg d3] at h
        by_cases d4 : ((Z40 m (pAt r m.2.1)).length : Int) < (pAt r m.2.1).2.1
        ·rw [if_pos d4] at h
         cases h
         exact .more c2 c3 k2 d1 d2 d3 d4
        ·rw [if_neg d4, Zeh] at h
         obtain ⟨hk, hpa, _⟩ := Z3i g.ris c3
         have hsz := g.sz _ (List.getElem_mem hk)
         rw [← hpa] at hsz
         have hml := Zjc f3.1 d1
         have e : Ze r m.2.1 = (r.1, delL r.2 (lbN (kP r.2) m.2.1)) := by unfold Ze; rw [if_pos c3]
         rw [← e] at h
         exact .whole c2 _ (.inr ⟨k2, c3, rfl, by omega, d1, d2⟩) (by omega) h
       ·rw [if_pos d2] at h; cases h
      ·rw [if_neg k2] at h
       cases h
       exact .have_ c2 c3 (.inr (by omega))
     ·rw [if_neg c3] at h; cases h
  ·rw [if_neg c1] at h; cases h
 ·rw [if_neg c0] at h
  injection h with h1 h2
  injection h2 with h2 h3
  exact absurd h2 c0
theorem Zav {m : Msg} {r : Rcv} (g : Good r) (hm : msgF m = 0) {a : Msg} {x : Rcv} (h : Took m r a x) : Good x ∧ a.2.1 = m.2.1 ∧ ∀ o ∈ r.1, o ∈ x.1 := by
 obtain ⟨_, fd, f3, f4, f5, _⟩ := Zbn hm
 cases h with
 | done h => exact ⟨g, rfl, fun _ h => h⟩
 | have_ h0 h hk => exact ⟨g, rfl, fun _ h => h⟩
 | part h0 hk h1 h2 h3 =>
  obtain ⟨w1, w2, w3, w4, w5⟩ := Z25 g m.2.1
  have hle := Z6j (kP (Ze r m.2.1).2) m.2.1
  rw [Z8p, w3] at hle
  refine ⟨⟨g.done, by show (insL _ _ _).length ≤ 100; rw [Z9v hle]; omega, fun p hp => ?_, fun p hp => ?_, fun p hp => ?_, ?_⟩, rfl, fun _ h => h⟩
  ·rcases Z27.1 hp with rfl | hp
   ·exact fd
   ·exact w1.dig p hp
  ·rcases Z27.1 hp with rfl | hp
   ·exact ⟨f4.1, h3, by show ((0 : Nat) : Int) < m.2.2.2.1; omega⟩
   ·exact w1.sz p hp
  ·rcases Z27.1 hp with rfl | hp
   ·exact h0
   ·exact fun h => w1.not p hp (by rw [w4]; exact h)
  ·show Rising (kP (insL _ _ _))
   rw [Zh7, ← w3]
   exact Z8h w1.ris w2
 | more h0 h hk h1 h2 h3 h4 =>
  obtain ⟨hkk, hpa, hpd⟩ := Z3i g.ris h
  have hks : kP (r.2.set (lbN (kP r.2) m.2.1) ((pAt r m.2.1).1, ((pAt r m.2.1).2.1, Z40 m (pAt r m.2.1)))) = kP r.2 := Zk8 (fun _ => by rw [hpa])
  have hsz := g.sz _ (List.getElem_mem hkk)
  rw [← hpa] at hsz
  refine ⟨⟨g.done, by simpa using g.len, fun p hp => ?_, fun p hp => ?_, fun p hp => ?_, by show Rising (kP _); rw [hks]; exact g.ris⟩, rfl, fun _ h => h⟩
  ·rcases List.mem_or_eq_of_mem_set hp with hp | rfl
   ·exact g.dig p hp
   ·show digB (pAt r m.2.1).1 = true
    rw [hpa]; exact g.dig _ (List.getElem_mem hkk)
  ·rcases List.mem_or_eq_of_mem_set hp with hp | rfl
   ·exact g.sz p hp
   ·exact ⟨hsz.1, hsz.2.1, h4⟩
  ·rcases List.mem_or_eq_of_mem_set hp with hp | rfl
   ·exact g.not p hp
   ·show (pAt r m.2.1).1 ∉ _
    rw [hpa]; exact g.not _ (List.getElem_mem hkk)
 | whole h0 b hb hl hw =>
  obtain ⟨w1, w2, w3, w4, w5⟩ := Z25 g m.2.1
  obtain ⟨g1, h2⟩ := Zcj w1 w2 (by rw [w4]; exact h0) (by omega) hw
  refine ⟨g1, ?_, fun o ho => ?_⟩
  ·rcases h2 with ⟨rfl, _⟩ | ⟨rfl, _⟩ <;> rfl
  ·rcases h2 with ⟨_, rfl⟩ | ⟨_, _, rfl⟩
   ·rw [w4]; exact ho
   ·rw [w4]; exact Z27.2 (.inr ho)
end Go.Proofs.YtnehieeplbgaiacDoor
set_option linter.unusedVariables false
set_option linter.unusedSimpArgs false
namespace Go.Proofs.YtnehieeplbgaiacDoor
open Go Go.Lib Go.Proofs.YtnehieeplbgaiacDoor.Eng
theorem Zhy (R k : Nat) : digC (hexD R k) = true := by
 have h : ((List.range 16).all fun n => digC (bt hexCs ((n : Nat) : Int))) = true := by decide +kernel
 exact List.all_eq_true.1 h _ (List.mem_range.2 (Nat.mod_lt _ (by decide)))
theorem Zef (R : Nat) : ∀ k, (digs R k).all digC = true
 | 0 => rfl
 | k + 1 => by simp only [digs, List.all_cons, Zhy, Zef R k]; rfl
theorem Zju (l : List UInt8) : digB (dgB l) = true := by
 unfold digB
 rw [Zjv, decide_eq_true rfl, Bool.true_and]
 simpa [dgB] using Zef (Zfe 14695981039346656037 l).toNat 16
end Go.Proofs.YtnehieeplbgaiacDoor
set_option linter.unusedVariables false
set_option linter.unusedSimpArgs false
namespace Go.Proofs.YtnehieeplbgaiacDoor
open Go Go.Lib Go.Proofs.YtnehieeplbgaiacDoor.Eng
structure AtD (r : Rcv) (d : ByteArray) (N : Int) (p : List UInt8) : Prop where
 good : Good r
 not : d ∉ kO r.1
 mem : d ∈ kP r.2
 part : pAt r d = (d, (N, p))
theorem AtD.lt {r : Rcv} {d : ByteArray} {N : Int} {p : List UInt8} (h : AtD r d N p) : 0 ≤ N ∧ N ≤ 100000 ∧ (p.length : Int) < N := by
 obtain ⟨hk, hpa, _⟩ := Z3i h.good.ris h.mem
 have := h.good.sz _ (List.getElem_mem hk)
 rw [← hpa, h.part] at this
 exact this
theorem AtD.dig {r : Rcv} {d : ByteArray} {N : Int} {p : List UInt8} (h : AtD r d N p) : digB d = true := by
 obtain ⟨hk, hpa, _⟩ := Z3i h.good.ris h.mem
 have := h.good.dig _ (List.getElem_mem hk)
 rw [← hpa, h.part] at this
 exact this
theorem Zjd {d : ByteArray} {N : Int} {p c : List UInt8} : Z40 (2, (d, ((p.length : Int), (0, c)))) (d, (N, p)) = p ++ c := by
 unfold Z40
 simp
theorem Zem {r x : Rcv} {d : ByteArray} {N : Int} {a : Msg} (g : Good r) (h : Z2k (1, (d, (0, (N, [])))) r = (a, (0, x))) : a.1 = 4 ∧ d ∈ kO x.1 ∨ a.1 = 5 ∧ dgB [] ≠ d ∧ N = 0 ∨ ∃ p, a = ans 3 d (p.length : Int) ∧ AtD x d N p := by
 obtain ⟨t1, t2, t3⟩ := Zct g h
 obtain ⟨g1, _, _⟩ := Zav g t1 t3
 cases t3 with
 | done hh => exact .inl ⟨rfl, hh⟩
 | have_ h0 hh hk =>
  rcases hk with hk | hk
  ·obtain ⟨hkk, hpa, hpd⟩ := Z3i g.ris hh
   refine .inr (.inr ⟨_, rfl, g, h0, hh, ?_⟩)
   have e1 : (pAt r d).1 = d := by rw [hpa]; exact hpd
   have e2 : (pAt r d).2.1 = N := hk.2
   exact Prod.ext e1 (Prod.ext e2 rfl)
  ·exact absurd hk (show ¬ (1 : Int) = 6 by decide)
 | part h0 k1 h1 h2 h3 =>
  obtain ⟨w1, w2, w3, w4, w5⟩ := Z25 g d
  have hle := Z6j (kP (Ze r d).2) d
  rw [Z8p, w3] at hle
  have hlb : lbN (kP (insL (Ze r d).2 (lbN (kP r.2) d) (d, (N, ([] : List UInt8))))) d = lbN (kP r.2) d := by
   rw [Zh7, ← w3]; exact lbN_ins
  refine .inr (.inr ⟨[], rfl, g1, h0, ?_, ?_⟩)
  ·show d ∈ kP (insL _ _ _)
   rw [Zh7, Z27]
   exact .inl rfl
  ·show pAt (r.1, insL (Ze r d).2 (lbN (kP r.2) d) (d, (N, []))) d = _
   unfold pAt
   simp only
   rw [hlb]
   exact Z4z (Ze7 hle)
 | more h0 h k2 h1 h2 h3 h4 => exact absurd k2 (show ¬ (1 : Int) = 2 by decide)
 | whole h0 b hb hl hw =>
  rcases hb with ⟨_, hb1, rfl, _⟩ | ⟨k2, _⟩
  ·obtain ⟨w1, w2, w3, w4, w5⟩ := Z25 g d
   unfold Z22 at hw
   by_cases c1 : dgB [] = d
   ·rw [if_pos c1] at hw
    by_cases c2 : 4000 ≤ (Ze r d).1.length
    ·rw [if_pos c2] at hw; cases hw
    ·rw [if_neg c2] at hw
     cases hw
     refine .inl ⟨rfl, ?_⟩
     show d ∈ kO (insL _ _ _)
     rw [Zh9, Z27]
     exact .inl rfl
   ·rw [if_neg c1] at hw
    cases hw
    exact .inr (.inl ⟨rfl, c1, hb1⟩)
  ·exact absurd k2 (show ¬ (1 : Int) = 2 by decide)
theorem Zjw {d : ByteArray} {n : Nat} {c : List UInt8} (hd : digB d = true) (hc : c ≠ []) (hc' : c.length ≤ 65536) (hn : n ≤ 2000000) : msgF (2, (d, ((n : Int), (0, c)))) = 0 := by
 have h0 : 0 < c.length := List.length_pos_iff.2 hc
 unfold msgF chkF
 simp only [hd]
 rw [if_neg (by decide), if_neg (by decide), if_neg (by omega), if_neg (by decide), if_neg (by omega), if_neg (by
  rintro (⟨_, h⟩ | ⟨h, _⟩ | h)
  ·exact h (.inl trivial)
  ·exact h rfl
  ·exact h ⟨fun _ => by omega, fun _ => trivial⟩)]
theorem send_at {r : Rcv} {d : ByteArray} {N : Int} {p c : List UInt8} (h : AtD r d N p) (hc : c ≠ []) (hc' : c.length ≤ 65536) (hN : (p.length : Int) + (c.length : Int) ≤ N) :
  ((p.length : Int) + (c.length : Int) < N ∧ ∃ x, Z2k (2, (d, ((p.length : Int), (0, c)))) r = (ans 3 d (((p ++ c).length : Nat) : Int), (0, x)) ∧ AtD x d N (p ++ c))
  ∨ ((p.length : Int) + (c.length : Int) = N ∧ Z2k (2, (d, ((p.length : Int), (0, c)))) r = Z22 d (p ++ c) (Ze r d)) := by
 obtain ⟨hN0, hN1, hN2⟩ := h.lt
 obtain ⟨hkk, hpa, hpd⟩ := Z3i h.good.ris h.mem
 have hm := Zjw (n := p.length) h.dig hc hc' (by omega)
 have e : Z2k (2, (d, ((p.length : Int), (0, c)))) r = Zc4 (2, (d, ((p.length : Int), (0, c)))) r := by
  unfold Z2k
  rw [if_pos hm]
  simp only [h.not, h.mem]
  simp
 have h1 : ¬ (p.length : Int) < (p.length : Int) := by omega
 have hlen : (((p ++ c).length : Nat) : Int) = (p.length : Int) + (c.length : Int) := by rw [List.length_append]; omega
 have e2 : Zc4 (2, (d, ((p.length : Int), (0, c)))) r = if (((p ++ c).length : Nat) : Int) < N then
   (ans 3 d (((p ++ c).length : Nat) : Int), (0, (r.1, r.2.set (lbN (kP r.2) d) (d, (N, p ++ c))))) else
   Z22 d (p ++ c) (r.1, delL (r.2.set (lbN (kP r.2) d) (d, (N, p ++ c))) (lbN (kP r.2) d)) := by
  unfold Zc4
  simp only [h.part, Zjd]
  rw [if_neg h1, if_neg (not_not_intro (by simp)), if_neg (by omega)]
 rw [e, e2]
 by_cases hlt : (p.length : Int) + (c.length : Int) < N
 ·left
  refine ⟨hlt, _, if_pos (by omega), ?_⟩
  rw [if_pos (by omega)] at e2
  have t := Zct h.good (e.trans e2)
  have g1 := (Zav h.good hm t.2.2).1
  have hks : kP (r.2.set (lbN (kP r.2) d) (d, (N, p ++ c))) = kP r.2 := Zk8 (fun _ => hpd)
  refine ⟨g1, h.not, ?_, ?_⟩
  ·show d ∈ kP (r.2.set _ _)
   rw [hks]; exact h.mem
  ·show List.getD (r.2.set _ _) (lbN (kP (r.2.set _ _)) d) partD = _
   rw [hks]
   exact Z5i hkk
 ·right
  refine ⟨by omega, ?_⟩
  rw [if_neg (by omega), Zeh]
  unfold Ze
  rw [if_pos h.mem]
theorem Zih {r : Rcv} {m : Msg} (g : Good r) : Qz.f r m = some (if (Z2k m r).2.1 = 0 then ((Z2k m r).2.2, ((Z2k m r).1, 0)) else (([], []), (noM, (Z2k m r).2.1))) := by
 rw [Zii (fun o ho => Nat.le_trans (g.done.sz o ho) (by decide))]
 unfold Zfk
 rw [if_pos (Z7w.2 g)]
end Go.Proofs.YtnehieeplbgaiacDoor
set_option linter.unusedVariables false
set_option linter.unusedSimpArgs false
namespace Go.Proofs.YtnehieeplbgaiacDoor
open Go Go.Lib Go.Proofs.YtnehieeplbgaiacDoor.Eng
theorem L_ext {s t : ByteArray} (h : s.data.toList = t.data.toList) : s = t := by
 apply ByteArray.ext
 exact Array.toList_inj.1 h
theorem Zk3 (s t : ByteArray) : (s ++ t).data.toList = s.data.toList ++ t.data.toList := by simp
theorem Zfd (l : List UInt8) (h k : Int) : Qb.l0 l h k = Q6.l0 l (l.length : Int) h k := rfl
theorem hexR : ∀ d : Nat, d < 16 → (ByteArray.extract Q4 d (d + 1)).data.toList = [bt hexCs (d : Int)] ∧ (ByteArray.extract Q4 d (d + 1)).size = 1 := by decide +kernel
theorem Zhi {R : Nat} (hR : R < 18446744073709551616) : ∀ (n : Nat) (s : ByteArray), n ≤ 16 → s.size ≤ 100 - n → Qb.l1 ((R : Nat) : Int) s (4 * (n : Int) - 4) = some (s ++ ⟨(digs R n).toArray⟩) := by
 intro n
 induction n with
 | zero =>
  intro s hn hs
  refine Zm ?_
  simp only [Qb.s1, Zb]
  rw [if_neg (by decide)]
  have e : s ++ (⟨(digs R 0).toArray⟩ : ByteArray) = s := L_ext (by rw [Zk3]; simp [digs])
  rw [e]
 | succ n ih =>
  intro s hn hs
  have hsz : ((ByteArray.size Q4 : Nat) : Int) = 16 := by decide
  have e0 : (4 * ((n + 1 : Nat) : Int) - 4) = ((4 * n : Nat) : Int) := by omega
  have e1 : Int.tmod (Int.fdiv ((R : Nat) : Int) (2 ^ min (Int.toNat ((4 * n : Nat) : Int)) (IntKind.bits .u64))) 16 = ((R / 16 ^ n % 16 : Nat) : Int) := by
   have e2 : min (Int.toNat ((4 * n : Nat) : Int)) (IntKind.bits .u64) = 4 * n := by
    show min (Int.toNat ((4 * n : Nat) : Int)) 64 = 4 * n
    omega
   have e3 : (2 : Int) ^ (4 * n) = ((16 ^ n : Nat) : Int) := by
    rw [Int.pow_mul]
    norm_cast
   rw [e2, e3, Int.fdiv_eq_ediv_of_nonneg _ (Int.natCast_nonneg _), ← Int.natCast_ediv, Int.tmod_eq_emod_of_nonneg (Int.natCast_nonneg _)]
   exact (Int.natCast_emod _ _).symm
  obtain ⟨h1, h2⟩ := hexR (R / 16 ^ n % 16) (Nat.mod_lt _ (by decide))
  have hd : R / 16 ^ n % 16 < 16 := Nat.mod_lt _ (by decide)
  rw [e0]
  have e4 : ∀ z : Int, ((4 * n : Nat) : Int) - 4 = 4 * (n : Int) - 4 := fun _ => by omega
  refine (Zi (x' := (s ++ ByteArray.extract Q4 (R / 16 ^ n % 16) (R / 16 ^ n % 16 + 1), 4 * (n : Int) - 4)) ?_).trans ((ih _ (by omega) (by rw [ByteArray.size_append, h2]; omega)).trans ?_)
  ·simp only [Qb.s1, Zb, e1, hsz]
   rw [if_pos (by omega), Z1 (by omega)]
   rw [Zil (n := ((R / 16 ^ n % 16 : Nat) : Int) + 1) (by omega) (by omega)]
   rw [Z1 ⟨by omega, by omega, by omega⟩]
   have e5 : (Int.toNat ((R / 16 ^ n % 16 : Nat) : Int)) = R / 16 ^ n % 16 := by omega
   have e6 : (Int.toNat (((R / 16 ^ n % 16 : Nat) : Int) + 1)) = R / 16 ^ n % 16 + 1 := by omega
   rw [e5, e6, h2, Z1 (by omega), Z1p (by omega) (by omega), e4 0]
  ·congr 1
   apply L_ext
   rw [Zk3, Zk3, Zk3, h1]
   simp [digs, hexD]
theorem Zc3 {l : List UInt8} (hl : l.length ≤ BIG) : Qb.f l = some (dgB l) := by
 have h := Zby hl _ 0 14695981039346656037 rfl
 obtain ⟨h1, h2⟩ := hashL_in l 14695981039346656037 (by decide)
 rw [List.drop_zero, show ((0 : Nat) : Int) = 0 from rfl] at h
 obtain ⟨R, hR⟩ := Int.eq_ofNat_of_zero_le h1
 unfold Qb.f
 rw [Zfd, h, ob_s, hR]
 have h3 := Zhi (R := R) (by omega) 16 bs_ (by decide) (by decide)
 rw [show (4 * ((16 : Nat) : Int) - 4) = 60 from rfl] at h3
 rw [h3, ob_s]
 unfold dgB
 rw [hR]
 congr 1
end Go.Proofs.YtnehieeplbgaiacDoor
set_option linter.unusedVariables false
set_option linter.unusedSimpArgs false
namespace Go.Proofs.YtnehieeplbgaiacDoor
open Go Go.Lib Go.Proofs.YtnehieeplbgaiacDoor.Eng
def Zdg (d : ByteArray) (b : List UInt8) (most k : Nat) : Msg := (2, (d, ((k : Int), (0, (b.take (k + most)).drop k))))
def chs (d : ByteArray) (b : List UInt8) (most : Nat) : Nat → Nat → List Msg
 | 0, _ => []
 | n + 1, k => if k < b.length then Zdg d b most k :: chs d b most n (k + most) else []
theorem cloneF {l : List UInt8} (h : l.length ≤ BIG) : Qh.f l = some l := Z6s l _ (by have : BIG = 140737488355328 := rfl; simp; omega)
theorem Zdd {d : ByteArray} {b : List UInt8} {most k : Nat} (hk : k ≤ b.length) (hb : b.length ≤ 1000000) (hm : most ≤ 1000000) : Qr.f d b (k : Int) (most : Int) = some (Zdg d b most k) := by
 unfold Qr.f
 have e : min ((k : Int) + (most : Int)) ((b.length : Nat) : Int) = ((min (k + most) b.length : Nat) : Int) := by omega
 have e2 : b.take (min (k + most) b.length) = b.take (k + most) := by
  rw [← List.take_take]
  rw [List.take_length]
 simp only [e]
 rw [Z1p (by omega) (by omega), Z1 (by omega)]
 simp only [Int.toNat_natCast, e2]
 rw [cloneF (by have : BIG = 140737488355328 := rfl; simp; omega), ob_s]
 rfl
theorem Z9p {d : ByteArray} {b : List UInt8} {most : Nat} (hb : b.length ≤ 100000) (hm : 1 ≤ most) (hm' : most ≤ 65536) : ∀ (n k : Nat) (out : List Msg), b.length - k ≤ n → k ≤ 1000000 → out.length + n ≤ 300000 →
  Qe.l0 d b (most : Int) (k : Int) out = some (out ++ chs d b most n k) := by
 intro n
 induction n with
 | zero =>
  intro k out hn hk ho
  refine Zm ?_
  simp only [Qe.s0, Zb]
  rw [if_neg (by omega)]
  simp [chs]
 | succ n ih =>
  intro k out hn hk ho
  by_cases h : k < b.length
  ·refine (Zi ?_).trans ((ih (k + most) (out ++ [Zdg d b most k]) (by omega) (by omega) (by simp; omega)).trans ?_)
   ·simp only [Qe.s0, Zb]
    rw [if_pos (by omega), Zdd (by omega) (by omega) (by omega), ob_s, Z1 (by simp; omega), Z1p (by omega) (by omega)]
    rfl
   ·simp only [chs]
    rw [if_pos h]
    simp
  ·refine Zm ?_
   simp only [Qe.s0, Zb]
   rw [if_neg (by omega)]
   simp [chs, h]
theorem Z8z {d : ByteArray} {b : List UInt8} (hd : digB d = true) : Ql.f d b = some (if 100000 < b.length then 2 else 0) := by
 unfold Ql.f
 rw [Z3o, hd, ob_s]
 simp only [Z1b, Zb]
 by_cases h : 100000 < b.length
 ·rw [if_pos h, if_pos (by omega)]; rfl
 ·rw [if_neg h, if_neg (by omega)]; rfl
theorem Z7g {d : ByteArray} {b : List UInt8} {most k : Nat} (hd : digB d = true) (hb : b.length ≤ 100000) (hk : k ≤ b.length) (hm : 1 ≤ most) (hm' : most ≤ 65536) :
  Qe.f d b (k : Int) (most : Int) = some ((1, (d, (0, ((b.length : Int), [])))) :: chs d b most b.length k, 0) := by
 unfold Qe.f
 simp only [Z8z hd, ob_s, Z1b, Zb, Z1w]
 rw [if_pos (by rw [if_neg (by omega)])]
 rw [if_pos (by omega), if_pos (by omega), Z9p hb hm hm' b.length k _ (by omega) (by omega) (by simp; omega), ob_s]
 rfl
end Go.Proofs.YtnehieeplbgaiacDoor
set_option linter.unusedVariables false
set_option linter.unusedSimpArgs false
namespace Go.Proofs.YtnehieeplbgaiacDoor
open Go Go.Lib Go.Proofs.YtnehieeplbgaiacDoor.Eng
theorem Zdf {d : ByteArray} {b : List UInt8} {most k : Nat} (hk : k < b.length) (hm : 1 ≤ most) : (b.take (k + most)).drop k ≠ [] ∧ ((b.take (k + most)).drop k).length = min most (b.length - k) := by
 have h : ((b.take (k + most)).drop k).length = min most (b.length - k) := by simp; omega
 refine ⟨fun h0 => ?_, h⟩
 rw [h0] at h
 simp at h
 omega
theorem Zjh {d : ByteArray} {b : List UInt8} {most : Nat} (hb : b.length ≤ 100000) (hm : 1 ≤ most) (hm' : most ≤ 65536) {Y : List Msg} (hY : Y.length ≤ 1000000) : ∀ (n k : Nat) (r : Rcv) (p : List UInt8) (a : Msg), b.length - p.length ≤ n → AtD r d (b.length : Int) p → Y.drop k = chs d b most n p.length →
  ∃ v, Q2.l0 Y (Y.length : Int) (k : Int) r.1 r.2 a.1 a.2.1 a.2.2.1 a.2.2.2.1 a.2.2.2.2 = some v ∧ (v = .inl true ∨ ∃ (x : Rcv) (c : Msg), v = .inr (x.1, (x.2, c)) ∧ (c.1 = 4 ∨ c.1 = 5)) := by
 intro n
 induction n with
 | zero =>
  intro k r p a hn h hd
  have := h.lt
  omega
 | succ n ih =>
  intro k r p a hn h hd
  obtain ⟨l1, l2, l3⟩ := h.lt
  have hlt : p.length < b.length := by omega
  simp only [chs, if_pos hlt] at hd
  have hk : k < Y.length := by
   apply Classical.byContradiction
   intro hc
   rw [List.drop_of_length_le (by omega)] at hd
   cases hd
  have hYk : Y[k] = Zdg d b most p.length := by
   rw [List.drop_eq_getElem_cons hk] at hd
   exact (List.cons.inj hd).1
  have hYd : Y.drop (k + 1) = chs d b most n (p.length + most) := by
   rw [List.drop_eq_getElem_cons hk] at hd
   exact (List.cons.inj hd).2
  obtain ⟨c1, c2⟩ := Zdf (d := d) hlt hm
  have hstep := send_at h c1 (by rw [c2]; omega) (by rw [c2]; omega)
  have hT := Zih (m := Zdg d b most p.length) h.good
  rcases hstep with ⟨s1, x, s2, s3⟩ | ⟨s1, s2⟩
  ·rw [show Z2k (Zdg d b most p.length) r = _ from s2, if_pos rfl] at hT
   have hlen : (p ++ (b.take (p.length + most)).drop p.length).length = p.length + most := by
    rw [List.length_append, c2]; omega
   obtain ⟨v, v1, v2⟩ := ih (k + 1) x _ (ans 3 d (((p ++ (b.take (p.length + most)).drop p.length).length : Nat) : Int)) (by rw [hlen]; omega) s3 (by rw [hlen]; exact hYd)
   refine ⟨v, (Zi ?_).trans v1, v2⟩
   simp only [Q2.s0, Zb]
   rw [if_pos (by omega), Z1 (by omega), Z2v hk, hYk]
   simp only [hT, ob_s, Z1b, Zb]
   rw [if_pos trivial, Z1p (by omega) (by omega)]
   rfl
  ·have hpl : b.length ≤ p.length + most := by omega
   have hend : Y.length ≤ k + 1 := by
    have : chs d b most n (p.length + most) = [] := by
     cases n with
     | zero => rfl
     | succ n => simp only [chs]; rw [if_neg (by omega)]
    rw [this] at hYd
    have := List.drop_eq_nil_iff.1 hYd
    exact this
   have hfin : ∀ (x : Rcv) (c : Msg), Q2.l0 Y (Y.length : Int) (((k + 1 : Nat)) : Int) x.1 x.2 c.1 c.2.1 c.2.2.1 c.2.2.2.1 c.2.2.2.2 = some (.inr (x.1, (x.2, c))) := fun x c => by
    refine Zm ?_
    simp only [Q2.s0, Zb]
    rw [if_neg (by omega)]
   rw [show Z2k (Zdg d b most p.length) r = _ from s2] at hT
   unfold Z22 at hT
   by_cases w1 : dgB (p ++ (b.take (p.length + most)).drop p.length) = d
   ·rw [if_pos w1] at hT
    by_cases w2 : 4000 ≤ (Ze r d).1.length
    ·rw [if_pos w2, if_neg (show ¬ (16 : Int) = 0 by decide)] at hT
     refine ⟨.inl true, Zm ?_, .inl rfl⟩
     simp only [Q2.s0, Zb]
     rw [if_pos (by omega), Z1 (by omega), Z2v hk, hYk]
     simp only [hT, ob_s, Z1b, Zb, awake_eq]
     rw [if_neg (by decide), if_pos trivial]
    ·rw [if_neg w2, if_pos rfl] at hT
     refine ⟨_, (Zi ?_).trans (hfin ((insL (Ze r d).1 (lbN (kO (Ze r d).1) d) (d, (p ++ (b.take (p.length + most)).drop p.length))), (Ze r d).2) (ans 4 d 0)), .inr ⟨((insL (Ze r d).1 (lbN (kO (Ze r d).1) d) (d, (p ++ (b.take (p.length + most)).drop p.length))), (Ze r d).2), ans 4 d 0, rfl, .inl rfl⟩⟩
     simp only [Q2.s0, Zb]
     rw [if_pos (by omega), Z1 (by omega), Z2v hk, hYk]
     simp only [hT, ob_s, Z1b, Zb]
     rw [if_pos trivial, Z1p (by omega) (by omega)]
     rfl
   ·rw [if_neg w1, if_pos rfl] at hT
    refine ⟨_, (Zi ?_).trans (hfin (Ze r d) (ans 5 d 0)), .inr ⟨Ze r d, ans 5 d 0, rfl, .inr rfl⟩⟩
    simp only [Q2.s0, Zb]
    rw [if_pos (by omega), Z1 (by omega), Z2v hk, hYk]
    simp only [hT, ob_s, Z1b, Zb]
    rw [if_pos trivial, Z1p (by omega) (by omega)]
    rfl
theorem Zi3 {d : ByteArray} {b : List UInt8} {most : Nat} : ∀ n k, (chs d b most n k).length ≤ n
 | 0, k => Nat.le_refl _
 | n + 1, k => by
  simp only [chs]
  by_cases h : k < b.length
  ·rw [if_pos h, List.length_cons]
   have := Zi3 (d := d) (b := b) (most := most) n (k + most)
   omega
  ·rw [if_neg h]; simp
theorem law_MA {r : Rcv} {b : List UInt8} {most : Int} (hs : szO r.1) (hb : b.length ≤ BIG) : Q2.f r b most = some true := by
 unfold Q2.f Qy.f
 rw [Zc3 hb, awake_eq]
 simp only [ob_s, Z1b, Zb]
 by_cases m1 : most < 1
 ·rw [if_pos m1]
 rw [if_neg m1]
 by_cases m2 : 65536 < most
 ·rw [if_pos m2]
 rw [if_neg m2]
 obtain ⟨M, rfl⟩ := Int.eq_ofNat_of_zero_le (show 0 ≤ most by omega)
 have hd := Zju b
 by_cases hl : 100000 < b.length
 ·have e : Qe.f (dgB b) b 0 (M : Int) = some ([], 2) := by
   unfold Qe.f
   simp only [Z8z hd, ob_s, Z1b, Zb]
   rw [if_pos hl, if_neg (by decide)]
  simp only [e, ob_s, Z1b, Zb]
  rw [if_neg (by decide), if_pos trivial]
 have e1 := Z7g (b := b) (k := 0) hd (by omega) (by omega) (show 1 ≤ M by omega) (by omega)
 rw [show ((0 : Nat) : Int) = 0 from rfl] at e1
 simp only [e1, ob_s, Z1b, Zb]
 rw [if_pos trivial, Z1 (by simp)]
 simp only [Zd5]
 have er : rd ((0 : Int), (ByteArray.empty, ((0 : Int), ((0 : Int), ([] : List UInt8))))) ((1, (dgB b, (0, ((b.length : Int), [])))) :: chs (dgB b) b M b.length 0) (0 : Int) = (1, (dgB b, (0, ((b.length : Int), [])))) := rfl
 rw [er, Zii hs, ob_s]
 by_cases c0 : (Zfk r (1, (dgB b, (0, ((b.length : Int), []))))).2.2 = 0
 ·rw [if_pos c0]
  by_cases c5 : (Zfk r (1, (dgB b, (0, ((b.length : Int), []))))).2.1.1 = 5
  ·rw [if_pos c5]
  rw [if_neg c5]
  unfold Zfk at c0 c5 ⊢
  by_cases h0 : chkR r = 0
  ·rw [if_pos h0] at c0 c5 ⊢
   by_cases h1 : (Z2k (1, (dgB b, (0, ((b.length : Int), [])))) r).2.1 = 0
   ·rw [if_pos h1] at c0 c5 ⊢
    have g := Z7w.1 h0
    obtain ⟨a, x, ht⟩ : ∃ a x, Z2k (1, (dgB b, (0, ((b.length : Int), [])))) r = (a, (0, x)) := ⟨_, _, Prod.ext rfl (Prod.ext h1 rfl)⟩
    rw [ht] at c5 ⊢
    have hfrom : ∃ F : Nat, a.2.2.1 = (F : Int) ∧ F ≤ b.length := by
     rcases Zem g ht with ⟨k4, _⟩ | ⟨k5, _⟩ | ⟨p, rfl, hat⟩
     ·obtain ⟨t1, t2, t3⟩ := Zct g ht
      cases t3 with
      | done h => exact ⟨0, rfl, Nat.zero_le _⟩
      | have_ h0 h hk => exact absurd k4 (by show ¬ (3 : Int) = 4; decide)
      | part h0 k1 h1 h2 h3 => exact absurd k4 (by show ¬ (3 : Int) = 4; decide)
      | more h0 h k2 h1 h2 h3 h4 => exact absurd k4 (by show ¬ (3 : Int) = 4; decide)
      | whole h0 b' hb' hl hw =>
       unfold Z22 at hw
       split at hw
       ·split at hw
        ·cases hw
        ·cases hw; exact ⟨0, rfl, Nat.zero_le _⟩
       ·cases hw; exact ⟨0, rfl, Nat.zero_le _⟩
     ·exact absurd k5 c5
     ·exact ⟨p.length, rfl, by have := hat.lt; omega⟩
    obtain ⟨F, hF1, hF2⟩ := hfrom
    have e2 := Z7g (b := b) (k := F) hd (by omega) hF2 (show 1 ≤ M by omega) (by omega)
    simp only [hF1]
    rw [e2, ob_s]
    simp only
    rw [if_pos trivial]
    rcases Zem g ht with ⟨k4, _⟩ | ⟨k5, _⟩ | ⟨p, rfl, hat⟩
    ·rw [if_pos k4]
    ·exact absurd k5 c5
    ·rw [if_neg (by show ¬ (3 : Int) = 4; decide), Z1 (by simp; omega)]
     have hFp : F = p.length := by
      have : ((p.length : Nat) : Int) = (F : Int) := hF1
      omega
     subst hFp
     obtain ⟨v, v1, v2⟩ := Zjh (d := dgB b) (b := b) (most := M) (Y := chs (dgB b) b M b.length p.length) (by omega) (by omega) (by omega) (Nat.le_trans (Zi3 _ _) (by omega)) b.length 0 x p (ans 3 (dgB b) (p.length : Int)) (by omega) hat rfl
     rw [show ((0 : Nat) : Int) = 0 from rfl] at v1
     have ed : List.drop (Int.toNat (1 : Int)) ((1, (dgB b, (0, ((b.length : Int), [])))) :: chs (dgB b) b M b.length p.length) = chs (dgB b) b M b.length p.length := rfl
     rw [ed]
     have v3 : Q2.l0 (chs (dgB b) b M b.length p.length) ((chs (dgB b) b M b.length p.length).length : Int) 0 x.1 x.2 (ans 3 (dgB b) (p.length : Int)).1 (ans 3 (dgB b) (p.length : Int)).2.1 (p.length : Int) (ans 3 (dgB b) (p.length : Int)).2.2.2.1 (ans 3 (dgB b) (p.length : Int)).2.2.2.2 = some v := v1
     rw [v3, ob_s]
     rcases v2 with rfl | ⟨z, c, rfl, hc⟩
     ·rfl
     ·simp only [Z80]
      rcases hc with hc | hc
      ·rw [if_pos hc]
      ·rw [if_neg (by omega), if_pos hc]
   ·rw [if_neg h1] at c0; exact absurd c0 h1
  ·rw [if_neg h0] at c0; exact absurd c0 h0
 ·rw [if_neg c0]
end Go.Proofs.YtnehieeplbgaiacDoor
set_option linter.unusedVariables false
set_option linter.unusedSimpArgs false
set_option maxRecDepth 100000
namespace Go.Proofs.YtnehieeplbgaiacDoor
open Go Go.RowKit Go.Lib Go.Proofs.YtnehieeplbgaiacDoor.Eng
theorem rcv_in (r : Rcv) (hx : InD T 6 25 (.pair (.slice (.pair .str (.slice .byte))) (.slice (.pair .str (.pair (.int .i64) (.slice .byte))))) r) : szO r.1 := by
 have hr : reachBytes ≤ BIG := by decide +kernel
 have h1 : InD T 5 22 (.slice (.pair .str (.slice .byte))) r.1 := hx.1
 intro o ho
 have h2 : InD T 4 65 (.pair .str (.slice .byte)) o := h1.2 o ho
 have h3 : List.length o.2 * 1 ≤ reachBytes := h2.2.1
 exact Nat.le_trans (by omega) hr
theorem law_MA' (x : Rcv × (List UInt8 × Int)) (hx : InA T 6 [25, 26, 3] [.pair (.slice (.pair .str (.slice .byte))) (.slice (.pair .str (.pair (.int .i64) (.slice .byte)))), .slice .byte, .int .i64] x) : Q2.f x.1 x.2.1 x.2.2 = some true := by
 have hr : reachBytes ≤ BIG := by decide +kernel
 have hb : InD T 6 26 (.slice .byte) x.2.1 := hx.2.1
 have h3 : List.length x.2.1 * 1 ≤ reachBytes := hb.1
 exact law_MA (rcv_in x.1 hx.1) (Nat.le_trans (by omega) hr)
end Go.Proofs.YtnehieeplbgaiacDoor
